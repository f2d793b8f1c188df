/- Merged: OmCk2, OmJn, OmTl. -/
import Derived.Test.YtjhpblejlchhjaaGreatOmBs
import Derived.Test.YtjhpblejlchhjaaGreatOmLs
import Derived.Test.YtjhpblejlchhjaaGreatOmTT
import Derived.Test.YtjhpblejlchhjaaGreatOmSm
import Derived.Test.YtjhpblejlchhjaaGreatOmNw
import Derived.Test.YtjhpblejlchhjaaGreatTabC
namespace Go.Proofs.YtjhpblejlchhjaaGreat
set_option maxRecDepth 100000
set_option maxHeartbeats 4000000
set_option linter.unusedVariables false
set_option linter.unusedSimpArgs false
section
open Go.RowKit Go.Shelf Go.Sort

theorem omCheck_gap (c : Cfg) (s : SlC) (wa ka va ca : Option Addr) (wc kc vc cc : Nat) (gs ps : List Int) (mv : Int) (ga pa : Option Addr) (gc pc : Nat) (g : Int) (hg : g ≠ 0) (w : World) (GK : Hid (∀ W, Below w.heap.size w W → Calls Tryz.prog 33 #[.agg #[.int .u8 c.tag, .int .i64 c.most, .int .i64 c.seg, .int .i64 c.least, .int .i64 c.den, .int .i64 c.ll, .int .i64 c.rl, .int .i64 c.rh, .int .i64 c.lh], .agg #[.int .i64 s.seg, .slice wa s.ws.length wc, .slice ka s.ks.length kc, .slice va s.vs.length vc, .slice ca s.cs.length cc, .int .u64 s.laid]] W (AnsB W (.int .i64 g)))) :
    Calls Tryz.prog 15 #[.agg #[.int .u8 c.tag, .int .i64 c.most, .int .i64 c.seg, .int .i64 c.least, .int .i64 c.den, .int .i64 c.ll, .int .i64 c.rl, .int .i64 c.rh, .int .i64 c.lh, .int .i64 s.seg, .slice wa s.ws.length wc, .slice ka s.ks.length kc, .slice va s.vs.length vc, .slice ca s.cs.length cc, .int .u64 s.laid, .slice ga gs.length gc, .slice pa ps.length pc, .int .u64 mv]] w (AnsB w (.int .i64 g)) := by
  have g1 : (g != 0) = true := by simpa using hg
  go_enter Tryz.func15, Tryz.ntmps15
  go_wp2_with fail
  refine (GK.out _ (by (exact xbel))).mono ?_
  rintro e w1 ⟨rfl, hb1⟩
  have hz_w1 := hb1.size
  try simp only [World.size_alloc, World.size_setCell] at hz_w1
  have hh := bc18 hb1 (al18 (b := w.heap.size) (by simp))
  obtain ⟨c_t0, c_t1, c_t2, c_t3, c_t4, c_t5, c_t6, c_t7, c_t8, c_t9, c_t10, c_t11, c_t12, c_t13, c_t14, c_t15, c_t16, c_t17⟩ := hh
  have z_t := blt hb1 (alz (b := w.heap.size) (by simp))
  have hB1 : Below w.heap.size w w1 := by (exact xbel)
  go_wp2
  go_ret
  exact ⟨rfl, hB1⟩
theorem omCheck_tab (c : Cfg) (s : SlC) (wa ka va ca : Option Addr) (wc kc vc cc : Nat) (gs ps : List Int) (mv : Int) (ga pa : Option Addr) (gc pc : Nat) (n e : Int) (he : e ≠ 0) (w : World) (GK : Hid (∀ W, Below w.heap.size w W → Calls Tryz.prog 33 #[.agg #[.int .u8 c.tag, .int .i64 c.most, .int .i64 c.seg, .int .i64 c.least, .int .i64 c.den, .int .i64 c.ll, .int .i64 c.rl, .int .i64 c.rh, .int .i64 c.lh], .agg #[.int .i64 s.seg, .slice wa s.ws.length wc, .slice ka s.ks.length kc, .slice va s.vs.length vc, .slice ca s.cs.length cc, .int .u64 s.laid]] W (AnsB W (.int .i64 0)))) (LV : Hid (∀ W, Below w.heap.size w W → Calls Tryz.prog 34 #[.agg #[.slice ga gs.length gc, .slice pa ps.length pc]] W (AnsB W (.tuple #[.int .i64 n, .int .i64 e])))) :
    Calls Tryz.prog 15 #[.agg #[.int .u8 c.tag, .int .i64 c.most, .int .i64 c.seg, .int .i64 c.least, .int .i64 c.den, .int .i64 c.ll, .int .i64 c.rl, .int .i64 c.rh, .int .i64 c.lh, .int .i64 s.seg, .slice wa s.ws.length wc, .slice ka s.ks.length kc, .slice va s.vs.length vc, .slice ca s.cs.length cc, .int .u64 s.laid, .slice ga gs.length gc, .slice pa ps.length pc, .int .u64 mv]] w (AnsB w (.int .i64 8)) := by
  have g1 : (e != 0) = true := by simpa using he
  go_enter Tryz.func15, Tryz.ntmps15
  go_wp2_with fail
  refine (GK.out _ (by (exact xbel))).mono ?_
  rintro e w1 ⟨rfl, hb1⟩
  have hz_w1 := hb1.size
  try simp only [World.size_alloc, World.size_setCell] at hz_w1
  have hh := bc18 hb1 (al18 (b := w.heap.size) (by simp))
  obtain ⟨c_t0, c_t1, c_t2, c_t3, c_t4, c_t5, c_t6, c_t7, c_t8, c_t9, c_t10, c_t11, c_t12, c_t13, c_t14, c_t15, c_t16, c_t17⟩ := hh
  have z_t := blt hb1 (alz (b := w.heap.size) (by simp))
  have hB1 : Below w.heap.size w w1 := by (exact xbel)
  have HB1 := Lib.hid hB1
  clear hb1 hB1
  go_wp2_with fail
  refine (LV.out _ HB1.out).mono ?_
  rintro e w2 ⟨rfl, hb2⟩
  have hz_w2 := hb2.size
  try simp only [World.size_alloc, World.size_setCell] at hz_w2
  have hh := bc18 hb2 ⟨c_t0, c_t1, c_t2, c_t3, c_t4, c_t5, c_t6, c_t7, c_t8, c_t9, c_t10, c_t11, c_t12, c_t13, c_t14, c_t15, c_t16, c_t17⟩
  clear c_t0 c_t1 c_t2 c_t3 c_t4 c_t5 c_t6 c_t7 c_t8 c_t9 c_t10 c_t11 c_t12 c_t13 c_t14 c_t15 c_t16 c_t17
  obtain ⟨c_t0, c_t1, c_t2, c_t3, c_t4, c_t5, c_t6, c_t7, c_t8, c_t9, c_t10, c_t11, c_t12, c_t13, c_t14, c_t15, c_t16, c_t17⟩ := hh
  replace z_t := blt hb2 z_t
  have HB2 := Lib.hid (below_via hb2 HB1.out HB1.out.size)
  go_wp2
  go_ret
  exact ⟨rfl, HB2.out⟩
theorem lnk_bad {s : SlC} {gs ps : List Int} (h : lnkTo s ps s.ks.length = false) : lnk s gs ps = false := by rw [lnk, h, Bool.and_false]
theorem omCheck_in (c : Cfg) (s : SlC) (wa ka va ca : Option Addr) (wc kc vc cc : Nat) (gs ps : List Int) (mv : Int) (ga pa : Option Addr) (gc pc : Nat) (n : Nat) (e : Int) (hn : s.ks.length = n) (hn2 : n ≤ 65536) (hg : gs.length ≤ 65536) (he : e = if lnk s gs ps = true then 0 else 8) (w : World) (hp : IsRow .i64 w pa ps) (hpl : ps.length ≤ 65536)
    (GK : Hid (∀ W, Below w.heap.size w W → Calls Tryz.prog 33 #[.agg #[.int .u8 c.tag, .int .i64 c.most, .int .i64 c.seg, .int .i64 c.least, .int .i64 c.den, .int .i64 c.ll, .int .i64 c.rl, .int .i64 c.rh, .int .i64 c.lh], .agg #[.int .i64 s.seg, .slice wa s.ws.length wc, .slice ka s.ks.length kc, .slice va s.vs.length vc, .slice ca s.cs.length cc, .int .u64 s.laid]] W (AnsB W (.int .i64 0)))) (LV : Hid (∀ W, Below w.heap.size w W → Calls Tryz.prog 34 #[.agg #[.slice ga gs.length gc, .slice pa ps.length pc]] W (AnsB W (.tuple #[.int .i64 (cntTo ps gs.length), .int .i64 0]))))
    (PR : Hid (∀ i : Nat, i < n → ∀ W, Below w.heap.size w W → Calls Tryz.prog 35 #[.agg #[.int .i64 s.seg, .slice wa s.ws.length wc, .slice ka s.ks.length kc, .slice va s.vs.length vc, .slice ca s.cs.length cc, .int .u64 s.laid], .int .i64 i] W (AnsB W (.tuple #[.agg #[.int .i64 (if bitW s.ws i = true then s.ks.getD i 0 else 0), .int .i64 (if bitW s.ws i = true then s.vs.getD i 0 else 0)], .int .i64 (if bitW s.ws i = true then 0 else 6)])))) :
    Calls Tryz.prog 15 #[.agg #[.int .u8 c.tag, .int .i64 c.most, .int .i64 c.seg, .int .i64 c.least, .int .i64 c.den, .int .i64 c.ll, .int .i64 c.rl, .int .i64 c.rh, .int .i64 c.lh, .int .i64 s.seg, .slice wa s.ws.length wc, .slice ka s.ks.length kc, .slice va s.vs.length vc, .slice ca s.cs.length cc, .int .u64 s.laid, .slice ga gs.length gc, .slice pa ps.length pc, .int .u64 mv]] w (AnsB w (.int .i64 e)) := by
  have HBAD := Lib.hid (fun (h : lnkTo s ps n = false) => (show e = 8 by rw [he, lnk_bad (hn ▸ h)]; rfl))
  have HGOOD := Lib.hid (fun (h : lnkTo s ps n = true) => (show e = if cntTo ps gs.length = cntW s.ws 0 n then 0 else 8 by rw [he, lnk, hn, h, Bool.and_true]; simp only [decide_eq_true_eq]))
  have HC := Lib.hid (cntTo_le ps gs.length)
  have HW := Lib.hid (fun k => cntW_le s.ws 0 k)
  have HPS := Lib.hid hp
  have HT0 := Lib.hid (lnkTo_zero s ps)
  have HTS := Lib.hid (lnkTo_succ s ps)
  have HTF := Lib.hid (fun k (hk : k < n) hb h => lnkTo_false (s := s) (ps := ps) (k := k) (n := n) hk hb h)
  have HCS := Lib.hid (fun k => cntW_succ (ws := s.ws) (a := 0) (b := k) (Nat.zero_le _))
  have HC0 := Lib.hid (show cntW s.ws 0 0 = 0 by simp [cntW])
  have HN := Lib.hid hn
  clear he hp hn
  go_enter Tryz.func15, Tryz.ntmps15
  go_wp2_with fail
  refine (GK.out _ (by (exact xbel))).mono ?_
  rintro e w1 ⟨rfl, hb1⟩
  have hz_w1 := hb1.size
  try simp only [World.size_alloc, World.size_setCell] at hz_w1
  have hh := bc18 hb1 (al18 (b := w.heap.size) (by simp))
  obtain ⟨c_t0, c_t1, c_t2, c_t3, c_t4, c_t5, c_t6, c_t7, c_t8, c_t9, c_t10, c_t11, c_t12, c_t13, c_t14, c_t15, c_t16, c_t17⟩ := hh
  have z_t := blt hb1 (alz (b := w.heap.size) (by simp))
  have hB1 : Below w.heap.size w w1 := by (exact xbel)
  have HB1 := Lib.hid hB1
  clear hb1 hB1
  go_wp2_with fail
  refine (LV.out _ HB1.out).mono ?_
  rintro e w2 ⟨rfl, hb2⟩
  have hz_w2 := hb2.size
  try simp only [World.size_alloc, World.size_setCell] at hz_w2
  have hh := bc18 hb2 ⟨c_t0, c_t1, c_t2, c_t3, c_t4, c_t5, c_t6, c_t7, c_t8, c_t9, c_t10, c_t11, c_t12, c_t13, c_t14, c_t15, c_t16, c_t17⟩
  clear c_t0 c_t1 c_t2 c_t3 c_t4 c_t5 c_t6 c_t7 c_t8 c_t9 c_t10 c_t11 c_t12 c_t13 c_t14 c_t15 c_t16 c_t17
  obtain ⟨c_t0, c_t1, c_t2, c_t3, c_t4, c_t5, c_t6, c_t7, c_t8, c_t9, c_t10, c_t11, c_t12, c_t13, c_t14, c_t15, c_t16, c_t17⟩ := hh
  replace z_t := blt hb2 z_t
  have HB2 := Lib.hid (below_via hb2 HB1.out HB1.out.size)
  have hz2 := HB2.out.size
  clear hb2
  obtain ⟨lv, hlv⟩ : ∃ lv, cntTo ps gs.length = lv := ⟨_, rfl⟩
  rw [hlv] at HC HGOOD ⊢
  have hlb : lv ≤ 65536 := by have := HC.out; omega
  go_wp2
  go_loopg [4, 29] n (fun gk mv2 iv wr => ∃ i : Nat, i + gk = n ∧ iv = .int .i64 i ∧ mv2 = .int .i64 ((lv : Int) - (cntW s.ws 0 i : Nat)) ∧ Hid (lnkTo s ps i = true) ∧ Hid (Below w2.heap.size w2 wr))
  case atStart => exact ⟨0, by omega, rfl, by rw [HC0.out]; simp, HT0, Lib.hid (Below.refl _ _)⟩
  case round =>
    obtain ⟨i, hi, rfl, rfl, HT, HB⟩ := hrel
    have hbr := HB.out
    have hz_wr := hbr.size
    try simp only [World.size_alloc, World.size_setCell] at hz_wr
    have hh := bc18 hbr ⟨c_t0, c_t1, c_t2, c_t3, c_t4, c_t5, c_t6, c_t7, c_t8, c_t9, c_t10, c_t11, c_t12, c_t13, c_t14, c_t15, c_t16, c_t17⟩
    clear c_t0 c_t1 c_t2 c_t3 c_t4 c_t5 c_t6 c_t7 c_t8 c_t9 c_t10 c_t11 c_t12 c_t13 c_t14 c_t15 c_t16 c_t17
    obtain ⟨c_t0, c_t1, c_t2, c_t3, c_t4, c_t5, c_t6, c_t7, c_t8, c_t9, c_t10, c_t11, c_t12, c_t13, c_t14, c_t15, c_t16, c_t17⟩ := hh
    replace z_t := blt hbr z_t
    have HB3 := Lib.hid (below_via hbr HB2.out hz2)
    have hci := HW.out i
    by_cases hlt : i < n
    · have PR2 := Lib.hid (PR.out i hlt)
      have hcs := HCS.out i
      have hts := HTS.out i
      have hfl := HTF.out i hlt
      have hlk : i < s.ks.length := by rw [HN.out]; exact hlt
      cases hb : bitW s.ws i with
      | false =>
        rw [hb] at PR2 hcs hts
        simp only [Bool.false_eq_true, if_false, Bool.not_false, Bool.true_or, Bool.and_true, Nat.add_zero] at PR2 hcs hts
        generalize cntW s.ws 0 i = ci at *
        have HTS2 := Lib.hid hts
        have HCS2 := Lib.hid hcs
        clear hts hcs hfl hbr hb
        go_wp2_with fail
        refine (PR2.out _ HB3.out).mono ?_
        rintro e w4 ⟨rfl, hb4⟩
        have hz_w4 := hb4.size
        try simp only [World.size_alloc, World.size_setCell] at hz_w4
        have hh := bc18 hb4 ⟨c_t0, c_t1, c_t2, c_t3, c_t4, c_t5, c_t6, c_t7, c_t8, c_t9, c_t10, c_t11, c_t12, c_t13, c_t14, c_t15, c_t16, c_t17⟩
        clear c_t0 c_t1 c_t2 c_t3 c_t4 c_t5 c_t6 c_t7 c_t8 c_t9 c_t10 c_t11 c_t12 c_t13 c_t14 c_t15 c_t16 c_t17
        obtain ⟨c_t0, c_t1, c_t2, c_t3, c_t4, c_t5, c_t6, c_t7, c_t8, c_t9, c_t10, c_t11, c_t12, c_t13, c_t14, c_t15, c_t16, c_t17⟩ := hh
        replace z_t := blt hb4 z_t
        have HB4 := Lib.hid (below_via hb4 HB.out HB.out.size)
        clear hb4
        go_wp2
        go_roundg (gk - 1)
        case measure => omega
        case rel => exact ⟨i + 1, by omega, by go_num, by rw [HCS2.out], Lib.hid (by rw [HTS2.out]; exact HT.out), Lib.hid (HB4.out.alloc HB4.out.size _)⟩
      | true =>
        rw [hb] at PR2 hcs hts
        simp only [if_true, Bool.not_true, Bool.false_or] at PR2 hcs hts
        have hfl2 := hfl hb
        obtain ⟨x, hx⟩ : ∃ x, s.ks.getD i 0 = x := ⟨_, rfl⟩
        obtain ⟨y, hy⟩ : ∃ y, s.vs.getD i 0 = y := ⟨_, rfl⟩
        rw [hx, hy] at PR2
        have hat : lnkAt s ps i = (decide (y = 0) && (decide (0 ≤ x) && (decide (x < ps.length) && decide (ps.getD x.toNat 0 = (i : Int))))) := by rw [lnkAt, hx, hy]
        generalize cntW s.ws 0 i = ci at *
        have hsb : IntKind.i64.wrap ((lv : Int) - (ci : Nat) - 1) = (lv : Int) - ((ci + 1 : Nat) : Int) := by rw [show (lv : Int) - (ci : Nat) - 1 = (lv : Int) - ((ci + 1 : Nat) : Int) by omega]; exact IntWalk.i64_in _ (by omega)
        have HTS2 := Lib.hid hts
        have HCS2 := Lib.hid hcs
        have HAT := Lib.hid hat
        have HFL := Lib.hid (fun (h : lnkAt s ps i = false) => HBAD.out (hfl2 h))
        clear hts hcs hfl hfl2 hbr hb hx hy hat
        by_cases h1 : y = 0
        · subst h1
          have e1 : ((0 : Int) != 0) = false := rfl
          by_cases h2 : 0 ≤ x
          · have e2 : decide (x < 0) = false := by simp; omega
            by_cases h3 : x < ps.length
            · have e3 : decide ((ps.length : Int) ≤ x) = false := by simp; omega
              obtain ⟨xn, rfl⟩ : ∃ xn : Nat, x = xn := ⟨x.toNat, by omega⟩
              rw [Int.toNat_natCast] at HAT
              have e3n : decide (ps.length ≤ xn) = false := by simp; omega
              obtain ⟨pb, po, z, rfl, hz, hcz, -⟩ := (HPS.out.below HB3.out).get (i := xn) (by omega)
              rw [hz.out] at HAT
              by_cases h4 : z = (i : Int)
              · have e4 : (z != (i : Int)) = false := by simpa using h4
                have hat : lnkAt s ps i = true := by rw [HAT.out]; simp [h2, h4]; omega
                have HA2 := Lib.hid hat
                clear hat h4 hz HAT HFL
                go_wp2_with fail
                refine (PR2.out _ HB3.out).mono ?_
                rintro e w4 ⟨rfl, hb4⟩
                have hz_w4 := hb4.size
                try simp only [World.size_alloc, World.size_setCell] at hz_w4
                have hh := bc18 hb4 ⟨c_t0, c_t1, c_t2, c_t3, c_t4, c_t5, c_t6, c_t7, c_t8, c_t9, c_t10, c_t11, c_t12, c_t13, c_t14, c_t15, c_t16, c_t17⟩
                clear c_t0 c_t1 c_t2 c_t3 c_t4 c_t5 c_t6 c_t7 c_t8 c_t9 c_t10 c_t11 c_t12 c_t13 c_t14 c_t15 c_t16 c_t17
                obtain ⟨c_t0, c_t1, c_t2, c_t3, c_t4, c_t5, c_t6, c_t7, c_t8, c_t9, c_t10, c_t11, c_t12, c_t13, c_t14, c_t15, c_t16, c_t17⟩ := hh
                replace z_t := blt hb4 z_t
                have HB4 := Lib.hid (below_via hb4 HB.out HB.out.size)
                have hcz4 := (hb4.cell (World.block_lt_of_cell? _ _ hcz)).trans hcz
                clear hb4 hcz
                go_upto_region 11 with (fail)
                generalize hw5 : w4.alloc (.cells #[.int .i64 xn, .int .i64 0] 71) = w5
                have hh := ec18 hw5 (au18 (⟨c_t0, c_t1, c_t2, c_t3, c_t4, c_t5, c_t6, c_t7, c_t8, c_t9, c_t10, c_t11, c_t12, c_t13, c_t14, c_t15, c_t16, c_t17⟩))
                clear c_t0 c_t1 c_t2 c_t3 c_t4 c_t5 c_t6 c_t7 c_t8 c_t9 c_t10 c_t11 c_t12 c_t13 c_t14 c_t15 c_t16 c_t17
                obtain ⟨c_t0, c_t1, c_t2, c_t3, c_t4, c_t5, c_t6, c_t7, c_t8, c_t9, c_t10, c_t11, c_t12, c_t13, c_t14, c_t15, c_t16, c_t17⟩ := hh
                replace z_t := elt hw5 (auz (z_t))
                have hh := ec2 hw5 (al2 (b := w4.heap.size) (by simp))
                obtain ⟨c_qa0, c_qa1⟩ := hh
                have z_qa := elt hw5 (alz (b := w4.heap.size) (by simp))
                have hb5 : Below w4.heap.size w4 w5 := by rw [← hw5]; exact (Below.refl _ _).alloc (Nat.le_refl _) _
                have HB5 := Lib.hid (below_via hb5 HB4.out HB4.out.size)
                have hcz5 := (hb5.cell (World.block_lt_of_cell? _ _ hcz4)).trans hcz4
                clear hw5 hb5 hcz4
                go_wp2
                go_roundg (gk - 1)
                case measure => omega
                case rel => exact ⟨i + 1, by omega, by go_num, by first | (rw [HCS2.out]; rfl) | (rw [HCS2.out]; push_cast; rfl) | (rw [HCS2.out]; simp), Lib.hid (by rw [HTS2.out, HT.out, HA2.out]; rfl), HB5⟩
              · have e4 : (z != (i : Int)) = true := by simpa using h4
                have he8 := HFL.out (by rw [HAT.out]; simp [h4])
                subst he8
                clear hz HAT HFL h4
                go_wp2_with fail
                refine (PR2.out _ HB3.out).mono ?_
                rintro e w4 ⟨rfl, hb4⟩
                have hz_w4 := hb4.size
                try simp only [World.size_alloc, World.size_setCell] at hz_w4
                have hh := bc18 hb4 ⟨c_t0, c_t1, c_t2, c_t3, c_t4, c_t5, c_t6, c_t7, c_t8, c_t9, c_t10, c_t11, c_t12, c_t13, c_t14, c_t15, c_t16, c_t17⟩
                clear c_t0 c_t1 c_t2 c_t3 c_t4 c_t5 c_t6 c_t7 c_t8 c_t9 c_t10 c_t11 c_t12 c_t13 c_t14 c_t15 c_t16 c_t17
                obtain ⟨c_t0, c_t1, c_t2, c_t3, c_t4, c_t5, c_t6, c_t7, c_t8, c_t9, c_t10, c_t11, c_t12, c_t13, c_t14, c_t15, c_t16, c_t17⟩ := hh
                replace z_t := blt hb4 z_t
                have HB4 := Lib.hid (below_via hb4 HB3.out HB3.out.size)
                have hcz4 := (hb4.cell (World.block_lt_of_cell? _ _ hcz)).trans hcz
                clear hb4 hcz
                go_upto_region 11 with (fail)
                generalize hw5 : w4.alloc (.cells #[.int .i64 xn, .int .i64 0] 71) = w5
                have hh := ec18 hw5 (au18 (⟨c_t0, c_t1, c_t2, c_t3, c_t4, c_t5, c_t6, c_t7, c_t8, c_t9, c_t10, c_t11, c_t12, c_t13, c_t14, c_t15, c_t16, c_t17⟩))
                clear c_t0 c_t1 c_t2 c_t3 c_t4 c_t5 c_t6 c_t7 c_t8 c_t9 c_t10 c_t11 c_t12 c_t13 c_t14 c_t15 c_t16 c_t17
                obtain ⟨c_t0, c_t1, c_t2, c_t3, c_t4, c_t5, c_t6, c_t7, c_t8, c_t9, c_t10, c_t11, c_t12, c_t13, c_t14, c_t15, c_t16, c_t17⟩ := hh
                replace z_t := elt hw5 (auz (z_t))
                have hh := ec2 hw5 (al2 (b := w4.heap.size) (by simp))
                obtain ⟨c_qb0, c_qb1⟩ := hh
                have z_qb := elt hw5 (alz (b := w4.heap.size) (by simp))
                have hb5 : Below w4.heap.size w4 w5 := by rw [← hw5]; exact (Below.refl _ _).alloc (Nat.le_refl _) _
                have HB5 := Lib.hid (below_via hb5 HB4.out HB4.out.size)
                have hcz5 := (hb5.cell (World.block_lt_of_cell? _ _ hcz4)).trans hcz4
                clear hw5 hb5 hcz4
                go_wp2
                go_ret
                exact ⟨rfl, HB5.out⟩
            · have e3 : decide ((ps.length : Int) ≤ x) = true := by simp; omega
              have he8 := HFL.out (by rw [HAT.out]; simp [h3])
              subst he8
              clear HAT HFL
              go_wp2_with fail
              refine (PR2.out _ HB3.out).mono ?_
              rintro e w4 ⟨rfl, hb4⟩
              have hz_w4 := hb4.size
              try simp only [World.size_alloc, World.size_setCell] at hz_w4
              have hh := bc18 hb4 ⟨c_t0, c_t1, c_t2, c_t3, c_t4, c_t5, c_t6, c_t7, c_t8, c_t9, c_t10, c_t11, c_t12, c_t13, c_t14, c_t15, c_t16, c_t17⟩
              clear c_t0 c_t1 c_t2 c_t3 c_t4 c_t5 c_t6 c_t7 c_t8 c_t9 c_t10 c_t11 c_t12 c_t13 c_t14 c_t15 c_t16 c_t17
              obtain ⟨c_t0, c_t1, c_t2, c_t3, c_t4, c_t5, c_t6, c_t7, c_t8, c_t9, c_t10, c_t11, c_t12, c_t13, c_t14, c_t15, c_t16, c_t17⟩ := hh
              replace z_t := blt hb4 z_t
              have HB4 := Lib.hid (below_via hb4 HB3.out HB3.out.size)
              clear hb4
              go_upto_region 11 with (fail)
              generalize hw5 : w4.alloc (.cells #[.int .i64 x, .int .i64 0] 71) = w5
              have hh := ec18 hw5 (au18 (⟨c_t0, c_t1, c_t2, c_t3, c_t4, c_t5, c_t6, c_t7, c_t8, c_t9, c_t10, c_t11, c_t12, c_t13, c_t14, c_t15, c_t16, c_t17⟩))
              clear c_t0 c_t1 c_t2 c_t3 c_t4 c_t5 c_t6 c_t7 c_t8 c_t9 c_t10 c_t11 c_t12 c_t13 c_t14 c_t15 c_t16 c_t17
              obtain ⟨c_t0, c_t1, c_t2, c_t3, c_t4, c_t5, c_t6, c_t7, c_t8, c_t9, c_t10, c_t11, c_t12, c_t13, c_t14, c_t15, c_t16, c_t17⟩ := hh
              replace z_t := elt hw5 (auz (z_t))
              have hh := ec2 hw5 (al2 (b := w4.heap.size) (by simp))
              obtain ⟨c_qc0, c_qc1⟩ := hh
              have z_qc := elt hw5 (alz (b := w4.heap.size) (by simp))
              have hb5 : Below w4.heap.size w4 w5 := by rw [← hw5]; exact (Below.refl _ _).alloc (Nat.le_refl _) _
              have HB5 := Lib.hid (below_via hb5 HB4.out HB4.out.size)
              clear hw5 hb5
              go_wp2
              go_ret
              exact ⟨rfl, HB5.out⟩
          · have e2 : decide (x < 0) = true := by simp; omega
            have he8 := HFL.out (by rw [HAT.out]; simp [h2])
            subst he8
            clear HAT HFL
            go_wp2_with fail
            refine (PR2.out _ HB3.out).mono ?_
            rintro e w4 ⟨rfl, hb4⟩
            have hz_w4 := hb4.size
            try simp only [World.size_alloc, World.size_setCell] at hz_w4
            have hh := bc18 hb4 ⟨c_t0, c_t1, c_t2, c_t3, c_t4, c_t5, c_t6, c_t7, c_t8, c_t9, c_t10, c_t11, c_t12, c_t13, c_t14, c_t15, c_t16, c_t17⟩
            clear c_t0 c_t1 c_t2 c_t3 c_t4 c_t5 c_t6 c_t7 c_t8 c_t9 c_t10 c_t11 c_t12 c_t13 c_t14 c_t15 c_t16 c_t17
            obtain ⟨c_t0, c_t1, c_t2, c_t3, c_t4, c_t5, c_t6, c_t7, c_t8, c_t9, c_t10, c_t11, c_t12, c_t13, c_t14, c_t15, c_t16, c_t17⟩ := hh
            replace z_t := blt hb4 z_t
            have HB4 := Lib.hid (below_via hb4 HB3.out HB3.out.size)
            clear hb4
            go_upto_region 11 with (fail)
            generalize hw5 : w4.alloc (.cells #[.int .i64 x, .int .i64 0] 71) = w5
            have hh := ec18 hw5 (au18 (⟨c_t0, c_t1, c_t2, c_t3, c_t4, c_t5, c_t6, c_t7, c_t8, c_t9, c_t10, c_t11, c_t12, c_t13, c_t14, c_t15, c_t16, c_t17⟩))
            clear c_t0 c_t1 c_t2 c_t3 c_t4 c_t5 c_t6 c_t7 c_t8 c_t9 c_t10 c_t11 c_t12 c_t13 c_t14 c_t15 c_t16 c_t17
            obtain ⟨c_t0, c_t1, c_t2, c_t3, c_t4, c_t5, c_t6, c_t7, c_t8, c_t9, c_t10, c_t11, c_t12, c_t13, c_t14, c_t15, c_t16, c_t17⟩ := hh
            replace z_t := elt hw5 (auz (z_t))
            have hh := ec2 hw5 (al2 (b := w4.heap.size) (by simp))
            obtain ⟨c_qd0, c_qd1⟩ := hh
            have z_qd := elt hw5 (alz (b := w4.heap.size) (by simp))
            have hb5 : Below w4.heap.size w4 w5 := by rw [← hw5]; exact (Below.refl _ _).alloc (Nat.le_refl _) _
            have HB5 := Lib.hid (below_via hb5 HB4.out HB4.out.size)
            clear hw5 hb5
            go_wp2
            go_ret
            exact ⟨rfl, HB5.out⟩
        · have e1 : (y != 0) = true := by simpa using h1
          have he8 := HFL.out (by rw [HAT.out]; simp [h1])
          subst he8
          clear HAT HFL
          go_wp2_with fail
          refine (PR2.out _ HB3.out).mono ?_
          rintro e w4 ⟨rfl, hb4⟩
          have hz_w4 := hb4.size
          try simp only [World.size_alloc, World.size_setCell] at hz_w4
          have hh := bc18 hb4 ⟨c_t0, c_t1, c_t2, c_t3, c_t4, c_t5, c_t6, c_t7, c_t8, c_t9, c_t10, c_t11, c_t12, c_t13, c_t14, c_t15, c_t16, c_t17⟩
          clear c_t0 c_t1 c_t2 c_t3 c_t4 c_t5 c_t6 c_t7 c_t8 c_t9 c_t10 c_t11 c_t12 c_t13 c_t14 c_t15 c_t16 c_t17
          obtain ⟨c_t0, c_t1, c_t2, c_t3, c_t4, c_t5, c_t6, c_t7, c_t8, c_t9, c_t10, c_t11, c_t12, c_t13, c_t14, c_t15, c_t16, c_t17⟩ := hh
          replace z_t := blt hb4 z_t
          have HB4 := Lib.hid (below_via hb4 HB3.out HB3.out.size)
          clear hb4
          go_upto_region 11 with (fail)
          generalize hw5 : w4.alloc (.cells #[.int .i64 x, .int .i64 y] 71) = w5
          have hh := ec18 hw5 (au18 (⟨c_t0, c_t1, c_t2, c_t3, c_t4, c_t5, c_t6, c_t7, c_t8, c_t9, c_t10, c_t11, c_t12, c_t13, c_t14, c_t15, c_t16, c_t17⟩))
          clear c_t0 c_t1 c_t2 c_t3 c_t4 c_t5 c_t6 c_t7 c_t8 c_t9 c_t10 c_t11 c_t12 c_t13 c_t14 c_t15 c_t16 c_t17
          obtain ⟨c_t0, c_t1, c_t2, c_t3, c_t4, c_t5, c_t6, c_t7, c_t8, c_t9, c_t10, c_t11, c_t12, c_t13, c_t14, c_t15, c_t16, c_t17⟩ := hh
          replace z_t := elt hw5 (auz (z_t))
          have hh := ec2 hw5 (al2 (b := w4.heap.size) (by simp))
          obtain ⟨c_qe0, c_qe1⟩ := hh
          have z_qe := elt hw5 (alz (b := w4.heap.size) (by simp))
          have hb5 : Below w4.heap.size w4 w5 := by rw [← hw5]; exact (Below.refl _ _).alloc (Nat.le_refl _) _
          have HB5 := Lib.hid (below_via hb5 HB4.out HB4.out.size)
          clear hw5 hb5
          go_wp2
          go_ret
          exact ⟨rfl, HB5.out⟩
    · have him : i = n := by omega
      subst him
      have hlk : ¬ i < s.ks.length := by rw [HN.out]; omega
      have hgd := HGOOD.out HT.out
      generalize cntW s.ws 0 i = ci at *
      clear hbr
      by_cases hq : lv = ci
      · have e1 : ((lv : Int) - (ci : Nat) != 0) = false := by simp; omega
        rw [if_pos hq] at hgd
        subst hgd
        go_wp2
        go_ret
        exact ⟨rfl, HB3.out⟩
      · have e1 : ((lv : Int) - (ci : Nat) != 0) = true := by simp; omega
        rw [if_neg hq] at hgd
        subst hgd
        go_wp2
        go_ret
        exact ⟨rfl, HB3.out⟩
end

section
open Go.RowKit

theorem om_nums {c : Cfg} {s : SlC} (h : gapE c s = 0) (hu : U64s s.ws) : s.ks.length ≤ 65536 ∧ s.ks.length ≤ 64 * s.ws.length ∧ s.vs.length = s.ks.length ∧ s.ws.length ≤ 65536 := by
  obtain ⟨hc, a, H, k, -⟩ := gap_zero h
  obtain ⟨g, -⟩ := gapN_gd k hu
  have hnm := g.nm
  have hw := g.elw
  exact ⟨by omega, by omega, by rw [k.nv, k.nk], by omega⟩
theorem pairs_at (s : SlC) (sa : SlA) (h1 : s.ks.length ≤ 65536) (h2 : s.ks.length ≤ 64 * s.ws.length) (h3 : s.vs.length = s.ks.length) (h4 : s.ws.length ≤ 65536) (i : Nat) (hi : i < s.ks.length) (w : World) (hin : SlIn w s sa) :
    Calls Tryz.prog 35 #[slV s sa, .int .i64 i] w (AnsB w (.tuple #[.agg #[.int .i64 (if bitW s.ws i = true then s.ks.getD i 0 else 0), .int .i64 (if bitW s.ws i = true then s.vs.getD i 0 else 0)], .int .i64 (if bitW s.ws i = true then 0 else 6)])) :=
  pair_ok s sa.wa sa.ka sa.va sa.ca sa.wc sa.kc sa.vc sa.cc i hi (by omega) (by omega) (by omega) h4 w hin
theorem omCheck_ok (c : Cfg) (s : SlC) (sa : SlA) (gs ps : List Int) (mv : Int) (ga pa : Option Addr) (gc pc : Nat) (hl : s.ws.length ≤ 1000000000000) (hl2 : s.ks.length ≤ 1000000000000) (hlg : gs.length ≤ 1000000000) (hlp : ps.length ≤ 1000000000) (hcc : s.cs.length ≤ sa.cc) (w : World) (hin : SlIn w s sa) (hg : IsRow .i64 w ga gs) (hp : IsRow .i64 w pa ps) :
    Calls Tryz.prog 15 #[omV c s sa.wa sa.ka sa.va sa.ca sa.wc sa.kc sa.vc sa.cc gs ps mv ga pa gc pc] w (AnsB w (.int .i64 (omE c s gs ps))) := by
  have GK := Lib.hid (fun W (hb : Below w.heap.size w W) => gapCheck_ok c s sa hl hl2 hcc W (hin.below hb))
  have LV := Lib.hid (fun W (hb : Below w.heap.size w W) => Live_ok ga pa gc pc gs ps W (hg.below hb) (hp.below hb) hlg hlp)
  by_cases h0 : gapE c s = 0
  · rw [h0] at GK
    rw [omE, if_pos h0]
    cases hm : may gs ps with
    | false =>
      rw [mayE_no hm] at LV
      rw [if_neg (by simp)]
      exact omCheck_tab c s sa.wa sa.ka sa.va sa.ca sa.wc sa.kc sa.vc sa.cc gs ps mv ga pa gc pc _ 8 (by decide) w GK LV
    | true =>
      rw [mayE_yes hm, liveN_yes hm] at LV
      obtain ⟨h1, h2, h3, h4⟩ := om_nums h0 hin.u
      obtain ⟨m1, m2⟩ := may_len hm
      refine omCheck_in c s sa.wa sa.ka sa.va sa.ca sa.wc sa.kc sa.vc sa.cc gs ps mv ga pa gc pc s.ks.length _ rfl h1 m2 ?_ w hp (by omega) GK LV (Lib.hid fun i hi W hb => pairs_at s sa h1 h2 h3 h4 i hi W (hin.below hb))
      simp only [true_and]
  · rw [omE, if_neg h0]
    exact omCheck_gap c s sa.wa sa.ka sa.va sa.ca sa.wc sa.kc sa.vc sa.cc gs ps mv ga pa gc pc _ h0 w GK
theorem Places15_in {c : Cfg} {s : SlC} (h : gapE c s = 0) (sa : SlA) (w : World) (hin : SlIn w s sa) : Calls Tryz.prog 53 #[slV s sa] w (FreshInts w (ints (plsW s.ws 0 s.ks.length))) := by
  obtain ⟨h1, h2, h3, h4⟩ := om_nums h hin.u
  exact Places15_ok s sa.wa sa.ka sa.va sa.ca sa.wc sa.kc sa.vc sa.cc _ w (Lib.hid fun W hb => Places02_ok sa.wa sa.wc s.ws hin.u 0 s.ks.length h2 (by omega) (by omega) W (hin.below hb).w)
theorem Check15_ok (c : Cfg) (s : SlC) (sa : SlA) (gs ps : List Int) (mv : Int) (ga pa : Option Addr) (gc pc : Nat) (hl : s.ws.length ≤ 1000000000000) (hl2 : s.ks.length ≤ 1000000000000) (hlg : gs.length ≤ 1000000000) (hlp : ps.length ≤ 1000000000) (w : World) (hin : SlIn w s sa) (hg : IsRow .i64 w ga gs) (hp : IsRow .i64 w pa ps) :
    Calls Tryz.prog 16 #[omV c s sa.wa sa.ka sa.va sa.ca sa.wc sa.kc sa.vc sa.cc gs ps mv ga pa gc pc] w (AnsB w (.int .i64 (omE c s gs ps))) := by
  have GK := Lib.hid (fun W (hb : Below w.heap.size w W) => Check09_ok c s sa hl hl2 W (hin.below hb))
  have MY := Lib.hid (fun W (hb : Below w.heap.size w W) => May_ok ga pa gc pc gs ps W (hg.below hb) (hp.below hb) hlg hlp)
  by_cases h0 : gapE c s = 0
  · rw [h0] at GK
    rw [omE, if_pos h0]
    cases hm : may gs ps with
    | false =>
      rw [hm] at MY
      rw [if_neg (by simp)]
      exact Check15_may c s sa.wa sa.ka sa.va sa.ca sa.wc sa.kc sa.vc sa.cc gs ps mv ga pa gc pc w GK MY
    | true =>
      rw [hm] at MY
      obtain ⟨h1, h2, h3, h4⟩ := om_nums h0 hin.u
      obtain ⟨m1, m2⟩ := may_len hm
      have LV := fun W (hb : Below w.heap.size w W) => Live14_ok ga pa gc pc gs ps W (hg.below hb) (hp.below hb) hlg hlp
      rw [liveN_yes hm] at LV
      have LK : Hid (∀ W, Below w.heap.size w W → Calls Tryz.prog 38 #[slV s sa, .agg #[.slice ga gs.length gc, .slice pa ps.length pc]] W (AnsB W (.bool (lnk s gs ps)))) := Lib.hid fun W hb => by
        by_cases hq : cntTo ps gs.length = cntW s.ws 0 s.ks.length
        · have e : lnk s gs ps = lnkL s ps (plsW s.ws 0 s.ks.length) (plsW s.ws 0 s.ks.length).length := by rw [lnk, decide_eq_true hq, Bool.true_and, lnkL_eq]
          have hc2 := cntW_le s.ws 0 s.ks.length
          refine linked_in s sa.wa sa.ka sa.va sa.ca sa.wc sa.kc sa.vc sa.cc gs ps ga pa gc pc (plsW s.ws 0 s.ks.length) s.ks.length (mayE gs ps) (lnk s gs ps) rfl h3 h1 (by rw [plsW_length]; omega) (fun i hi => (plsW_getD hi).2) (by omega) e W (hin.below hb) (hp.below hb) (Lib.hid fun W' hb' => Places15_in h0 sa W' ((hin.below hb).below hb')) (Lib.hid fun W' hb' => ?_)
          have := LV W' (below_via hb' hb hb.size)
          rw [hq, ← plsW_length] at this
          exact this
        · have e : lnk s gs ps = false := by rw [lnk, decide_eq_false hq, Bool.false_and]
          rw [e]
          exact linked_len s sa.wa sa.ka sa.va sa.ca sa.wc sa.kc sa.vc sa.cc gs ps ga pa gc pc (plsW s.ws 0 s.ks.length) _ _ (by rw [plsW_length]; omega) W (Lib.hid fun W' hb' => Places15_in h0 sa W' ((hin.below hb).below hb')) (Lib.hid fun W' hb' => LV W' (below_via hb' hb hb.size))
      cases hk : lnk s gs ps with
      | true => rw [hk] at LK; rw [if_pos ⟨rfl, rfl⟩]; exact Check15_yes c s sa.wa sa.ka sa.va sa.ca sa.wc sa.kc sa.vc sa.cc gs ps mv ga pa gc pc w GK MY LK
      | false => rw [hk] at LK; rw [if_neg (by simp)]; exact Check15_no c s sa.wa sa.ka sa.va sa.ca sa.wc sa.kc sa.vc sa.cc gs ps mv ga pa gc pc w GK MY LK
  · rw [omE, if_neg h0]
    exact Check15_gap c s sa.wa sa.ka sa.va sa.ca sa.wc sa.kc sa.vc sa.cc gs ps mv ga pa gc pc _ h0 w GK
theorem om_all {c : Cfg} {s : SlC} {gs ps : List Int} (h : omE c s gs ps = 0) : ∀ i, i < (plsW s.ws 0 s.ks.length).length → (plsW s.ws 0 s.ks.length).getD i 0 < s.ks.length ∧ 0 ≤ s.ks.getD ((plsW s.ws 0 s.ks.length).getD i 0) 0 ∧ s.ks.getD ((plsW s.ws 0 s.ks.length).getD i 0) 0 < gs.length ∧
    (hdl s gs 0 s.ks.length).getD i (0, 0) = (s.ks.getD ((plsW s.ws 0 s.ks.length).getD i 0) 0, gs.getD (s.ks.getD ((plsW s.ws 0 s.ks.length).getD i 0) 0).toNat 0) := by
  obtain ⟨-, hm, hk⟩ := omE_zero h
  simp only [lnk, Bool.and_eq_true, decide_eq_true_eq] at hk
  obtain ⟨m1, m2⟩ := may_len hm
  intro i hi
  obtain ⟨j, e1, ⟨b1, b2, b3⟩, e2⟩ := hdl_at (s := s) (gs := gs) (a := 0) (b := s.ks.length) (k := i) (by rw [hdl, List.length_map]; exact hi)
  have f := lnkAt_facts (lnkTo_at hk.2 b2 b3)
  rw [e1]
  exact ⟨b2, f.2.1, by omega, e2⟩
theorem All15_in (c : Cfg) (s : SlC) (sa : SlA) (gs ps : List Int) (mv : Int) (ga pa : Option Addr) (gc pc : Nat) (h : omE c s gs ps = 0) (w : World) (hin : SlIn w s sa) (hg : IsRow .i64 w ga gs) (hp : IsRow .i64 w pa ps) : Calls Tryz.prog 30 #[omV c s sa.wa sa.ka sa.va sa.ca sa.wc sa.kc sa.vc sa.cc gs ps mv ga pa gc pc] w (FreshHd w (hdl s gs 0 s.ks.length)) := by
  have h0 := (omE_zero h).1
  have hn := (om_nums h0 hin.u).1
  have hc := cntW_le s.ws 0 s.ks.length
  exact All15_ok c s sa.wa sa.ka sa.va sa.ca sa.wc sa.kc sa.vc sa.cc gs ps mv ga pa gc pc (plsW s.ws 0 s.ks.length) (hdl s gs 0 s.ks.length) _ rfl (by rw [hdl, List.length_map]) (by rw [plsW_length]; omega) (om_all h) w hin.k hg (Lib.hid fun W hb => Places15_in h0 sa W (hin.below hb))
theorem Index15_in (c : Cfg) (s : SlC) (sa : SlA) (gs ps : List Int) (mv : Int) (ga pa : Option Addr) (gc pc : Nat) (h : omE c s gs ps = 0) (n g : Int) (w : World) (hin : SlIn w s sa) (hg : IsRow .i64 w ga gs) (hp : IsRow .i64 w pa ps) : Calls Tryz.prog 31 #[omV c s sa.wa sa.ka sa.va sa.ca sa.wc sa.kc sa.vc sa.cc gs ps mv ga pa gc pc, .agg #[.int .i64 n, .int .i64 g]] w (AnsB w (.int .i64 (idxL (hdl s gs 0 s.ks.length) n g))) := by
  have hn := (om_nums (omE_zero h).1 hin.u).1
  have hc := cntW_le s.ws 0 s.ks.length
  exact Index15_ok c s sa.wa sa.ka sa.va sa.ca sa.wc sa.kc sa.vc sa.cc gs ps mv ga pa gc pc _ (by rw [hdl_length]; omega) n g w (Lib.hid fun W hb => All15_in c s sa gs ps mv ga pa gc pc h W (hin.below hb) (hg.below hb) (hp.below hb))
theorem Label15_ok (c : Cfg) (s : SlC) (sa : SlA) (gs ps : List Int) (mv : Int) (ga pa : Option Addr) (gc pc : Nat) (hl : s.ws.length ≤ 1000000000000) (hl2 : s.ks.length ≤ 1000000000000) (hlg : gs.length ≤ 1000000000) (hlp : ps.length ≤ 1000000000) (n g : Int) (w : World) (hin : SlIn w s sa) (hg : IsRow .i64 w ga gs) (hp : IsRow .i64 w pa ps) : Calls Tryz.prog 14 #[omV c s sa.wa sa.ka sa.va sa.ca sa.wc sa.kc sa.vc sa.cc gs ps mv ga pa gc pc, .agg #[.int .i64 n, .int .i64 g]] w (AnsB w (.tuple #[.int .i64 (labV c s gs ps n g), .int .i64 (labE c s gs ps n g)])) := by
  have CK := Lib.hid (fun W (hb : Below w.heap.size w W) => Check15_ok c s sa gs ps mv ga pa gc pc hl hl2 hlg hlp W (hin.below hb) (hg.below hb) (hp.below hb))
  by_cases h : omE c s gs ps = 0
  · rw [h] at CK
    have IX := Lib.hid (fun W (hb : Below w.heap.size w W) => Index15_in c s sa gs ps mv ga pa gc pc h n g W (hin.below hb) (hg.below hb) (hp.below hb))
    have hi := idx_lab0 h n g
    cases hh : isH gs ps n g with
    | false =>
      rw [hh] at hi
      have e1 : labE c s gs ps n g = 140 := by simp [labE, h, hh]
      have e2 : labV c s gs ps n g = 0 := by simp [labV, h, hh]
      rw [e1, e2]
      exact Label15_no c s sa.wa sa.ka sa.va sa.ca sa.wc sa.kc sa.vc sa.cc gs ps mv ga pa gc pc n g _ (by simp at hi; omega) w CK IX
    | true =>
      rw [hh] at hi
      obtain ⟨f1, f2, f3, f4⟩ := isH_facts hh
      obtain ⟨m1, m2⟩ := may_len (omE_zero h).2.1
      have e1 : labE c s gs ps n g = 0 := by simp [labE, h, hh]
      have e2 : labV c s gs ps n g = ps.getD n.toNat 0 := by simp [labV, h, hh]
      rw [e1, e2]
      obtain ⟨k, rfl⟩ : ∃ k : Nat, n = k := ⟨n.toNat, by omega⟩
      rw [Int.toNat_natCast]
      exact Label15_yes c s sa.wa sa.ka sa.va sa.ca sa.wc sa.kc sa.vc sa.cc gs ps mv ga pa gc pc k g _ _ (hi.2 rfl) (by omega) rfl w hp CK IX
  · have e1 : labE c s gs ps n g = omE c s gs ps := by simp [labE, h]
    have e2 : labV c s gs ps n g = 0 := by simp [labV, h]
    rw [e1, e2]
    exact Label15_err c s sa.wa sa.ka sa.va sa.ca sa.wc sa.kc sa.vc sa.cc gs ps mv ga pa gc pc n g _ h w CK
theorem omLabel_ok (c : Cfg) (s : SlC) (sa : SlA) (gs ps : List Int) (mv : Int) (ga pa : Option Addr) (gc pc : Nat) (hl : s.ws.length ≤ 1000000000000) (hl2 : s.ks.length ≤ 1000000000000) (hlg : gs.length ≤ 1000000000) (hlp : ps.length ≤ 1000000000) (hcc : s.cs.length ≤ sa.cc) (n g : Int) (w : World) (hin : SlIn w s sa) (hg : IsRow .i64 w ga gs) (hp : IsRow .i64 w pa ps) : Calls Tryz.prog 13 #[omV c s sa.wa sa.ka sa.va sa.ca sa.wc sa.kc sa.vc sa.cc gs ps mv ga pa gc pc, .agg #[.int .i64 n, .int .i64 g]] w (AnsB w (.tuple #[.int .i64 (labV c s gs ps n g), .int .i64 (labE c s gs ps n g)])) := by
  have CK := Lib.hid (fun W (hb : Below w.heap.size w W) => omCheck_ok c s sa gs ps mv ga pa gc pc hl hl2 hlg hlp hcc W (hin.below hb) (hg.below hb) (hp.below hb))
  by_cases h : omE c s gs ps = 0
  · rw [h] at CK
    have hm := (omE_zero h).2.1
    refine omLabel_in c s sa.wa sa.ka sa.va sa.ca sa.wc sa.kc sa.vc sa.cc gs ps mv ga pa gc pc n g _ _ w CK (Lib.hid fun W hb => ?_)
    have := Find_ok ga pa gc pc gs ps n g W (hg.below hb) (hp.below hb) hlg hlp
    have e1 : labE c s gs ps n g = tfindE gs ps n g := by simp [labE, tfindE, h, hm]
    have e2 : labV c s gs ps n g = tfindV gs ps n g := by simp [labV, tfindV, h, hm]
    rw [e1, e2]
    exact this
  · have e1 : labE c s gs ps n g = omE c s gs ps := by simp [labE, h]
    have e2 : labV c s gs ps n g = 0 := by simp [labV, h]
    rw [e1, e2]
    exact omLabel_err c s sa.wa sa.ka sa.va sa.ca sa.wc sa.kc sa.vc sa.cc gs ps mv ga pa gc pc n g _ h w CK
theorem omCompare_ok (c : Cfg) (s : SlC) (sa : SlA) (gs ps : List Int) (mv : Int) (ga pa : Option Addr) (gc pc : Nat) (hl : s.ws.length ≤ 1000000000000) (hl2 : s.ks.length ≤ 1000000000000) (hlg : gs.length ≤ 1000000000) (hlp : ps.length ≤ 1000000000) (hcc : s.cs.length ≤ sa.cc) (n g n2 g2 : Int) (w : World) (hin : SlIn w s sa) (hg : IsRow .i64 w ga gs) (hp : IsRow .i64 w pa ps) : Calls Tryz.prog 11 #[omV c s sa.wa sa.ka sa.va sa.ca sa.wc sa.kc sa.vc sa.cc gs ps mv ga pa gc pc, .agg #[.int .i64 n, .int .i64 g], .agg #[.int .i64 n2, .int .i64 g2]] w (AnsB w (.tuple #[.int .i64 (cmpV c s gs ps n g n2 g2), .int .i64 (cmpE c s gs ps n g n2 g2)])) := by
  have LA := Lib.hid (fun W (hb : Below w.heap.size w W) => omLabel_ok c s sa gs ps mv ga pa gc pc hl hl2 hlg hlp hcc n g W (hin.below hb) (hg.below hb) (hp.below hb))
  have LB := Lib.hid (fun W (hb : Below w.heap.size w W) => omLabel_ok c s sa gs ps mv ga pa gc pc hl hl2 hlg hlp hcc n2 g2 W (hin.below hb) (hg.below hb) (hp.below hb))
  by_cases h1 : labE c s gs ps n g = 0
  · rw [h1] at LA
    by_cases h2 : labE c s gs ps n2 g2 = 0
    · rw [h2] at LB
      have e1 : cmpE c s gs ps n g n2 g2 = 0 := by rw [cmpE, if_pos h1, h2]
      have e2 : cmpV c s gs ps n g n2 g2 = cmpI (labV c s gs ps n g) (labV c s gs ps n2 g2) := by rw [cmpV, if_pos ⟨h1, h2⟩]
      rw [e1, e2]
      exact omCompare_in c s sa.wa sa.ka sa.va sa.ca sa.wc sa.kc sa.vc sa.cc gs ps mv ga pa gc pc n g n2 g2 _ _ w LA LB
    · have e1 : cmpE c s gs ps n g n2 g2 = labE c s gs ps n2 g2 := by rw [cmpE, if_pos h1]
      have e2 : cmpV c s gs ps n g n2 g2 = 0 := by rw [cmpV, if_neg (fun h => h2 h.2)]
      rw [e1, e2]
      exact omCompare_e2 c s sa.wa sa.ka sa.va sa.ca sa.wc sa.kc sa.vc sa.cc gs ps mv ga pa gc pc n g n2 g2 _ _ _ h2 w LA LB
  · have e1 : cmpE c s gs ps n g n2 g2 = labE c s gs ps n g := by rw [cmpE, if_neg h1]
    have e2 : cmpV c s gs ps n g n2 g2 = 0 := by rw [cmpV, if_neg (fun h => h1 h.1)]
    rw [e1, e2]
    exact omCompare_e1 c s sa.wa sa.ka sa.va sa.ca sa.wc sa.kc sa.vc sa.cc gs ps mv ga pa gc pc n g n2 g2 _ _ h1 w LA
theorem Compare15_ok (c : Cfg) (s : SlC) (sa : SlA) (gs ps : List Int) (mv : Int) (ga pa : Option Addr) (gc pc : Nat) (hl : s.ws.length ≤ 1000000000000) (hl2 : s.ks.length ≤ 1000000000000) (hlg : gs.length ≤ 1000000000) (hlp : ps.length ≤ 1000000000) (n g n2 g2 : Int) (w : World) (hin : SlIn w s sa) (hg : IsRow .i64 w ga gs) (hp : IsRow .i64 w pa ps) : Calls Tryz.prog 12 #[omV c s sa.wa sa.ka sa.va sa.ca sa.wc sa.kc sa.vc sa.cc gs ps mv ga pa gc pc, .agg #[.int .i64 n, .int .i64 g], .agg #[.int .i64 n2, .int .i64 g2]] w (AnsB w (.tuple #[.int .i64 (cmpV c s gs ps n g n2 g2), .int .i64 (cmpE c s gs ps n g n2 g2)])) := by
  have CK := Lib.hid (fun W (hb : Below w.heap.size w W) => Check15_ok c s sa gs ps mv ga pa gc pc hl hl2 hlg hlp W (hin.below hb) (hg.below hb) (hp.below hb))
  by_cases h : omE c s gs ps = 0
  · rw [h] at CK
    have IA := Lib.hid (fun W (hb : Below w.heap.size w W) => Index15_in c s sa gs ps mv ga pa gc pc h n g W (hin.below hb) (hg.below hb) (hp.below hb))
    have IB := Lib.hid (fun W (hb : Below w.heap.size w W) => Index15_in c s sa gs ps mv ga pa gc pc h n2 g2 W (hin.below hb) (hg.below hb) (hp.below hb))
    have hi := idx_lab0 h n g
    have hj := idx_lab0 h n2 g2
    have l1 : labE c s gs ps n g = if isH gs ps n g = true then 0 else 140 := by rw [labE, if_pos h]
    have l2 : labE c s gs ps n2 g2 = if isH gs ps n2 g2 = true then 0 else 140 := by rw [labE, if_pos h]
    by_cases q1 : 0 ≤ idxL (hdl s gs 0 s.ks.length) n g
    · by_cases q2 : 0 ≤ idxL (hdl s gs 0 s.ks.length) n2 g2
      · rw [if_pos (hi.1 q1)] at l1
        rw [if_pos (hj.1 q2)] at l2
        have e1 : cmpE c s gs ps n g n2 g2 = 0 := by rw [cmpE, if_pos l1, l2]
        have e2 : cmpV c s gs ps n g n2 g2 = cmpI (idxL (hdl s gs 0 s.ks.length) n g) (idxL (hdl s gs 0 s.ks.length) n2 g2) := by rw [cmpV, if_pos ⟨l1, l2⟩, idx_cmp h n g n2 g2 q1 q2]
        rw [e1, e2]
        exact Compare15_in c s sa.wa sa.ka sa.va sa.ca sa.wc sa.kc sa.vc sa.cc gs ps mv ga pa gc pc n g n2 g2 _ _ q1 q2 w CK IA IB
      · rw [if_pos (hi.1 q1)] at l1
        rw [if_neg (fun x => q2 (hj.2 x))] at l2
        have e1 : cmpE c s gs ps n g n2 g2 = 140 := by rw [cmpE, if_pos l1, l2]
        have e2 : cmpV c s gs ps n g n2 g2 = 0 := by rw [cmpV, if_neg (by rw [l2]; simp)]
        rw [e1, e2]
        exact Compare15_no c s sa.wa sa.ka sa.va sa.ca sa.wc sa.kc sa.vc sa.cc gs ps mv ga pa gc pc n g n2 g2 _ _ (Or.inr (by omega)) w CK IA IB
    · rw [if_neg (fun x => q1 (hi.2 x))] at l1
      have e1 : cmpE c s gs ps n g n2 g2 = 140 := by rw [cmpE, if_neg (by rw [l1]; decide), l1]
      have e2 : cmpV c s gs ps n g n2 g2 = 0 := by rw [cmpV, if_neg (by rw [l1]; simp)]
      rw [e1, e2]
      exact Compare15_no c s sa.wa sa.ka sa.va sa.ca sa.wc sa.kc sa.vc sa.cc gs ps mv ga pa gc pc n g n2 g2 _ _ (Or.inl (by omega)) w CK IA IB
  · have l1 : labE c s gs ps n g = omE c s gs ps := by rw [labE, if_neg h]
    have e1 : cmpE c s gs ps n g n2 g2 = omE c s gs ps := by rw [cmpE, if_neg (by rw [l1]; exact h), l1]
    have e2 : cmpV c s gs ps n g n2 g2 = 0 := by rw [cmpV, if_neg (fun q => h (by rw [← l1]; exact q.1))]
    rw [e1, e2]
    exact Compare15_err c s sa.wa sa.ka sa.va sa.ca sa.wc sa.kc sa.vc sa.cc gs ps mv ga pa gc pc n g n2 g2 _ h w CK
def lstL (c : Cfg) (s : SlC) (gs ps : List Int) : List (Int × Int) := if omE c s gs ps = 0 then hdl s gs 0 s.ks.length else []
theorem List15_ok (c : Cfg) (s : SlC) (sa : SlA) (gs ps : List Int) (mv : Int) (ga pa : Option Addr) (gc pc : Nat) (hl : s.ws.length ≤ 1000000000000) (hl2 : s.ks.length ≤ 1000000000000) (hlg : gs.length ≤ 1000000000) (hlp : ps.length ≤ 1000000000) (w : World) (hin : SlIn w s sa) (hg : IsRow .i64 w ga gs) (hp : IsRow .i64 w pa ps) : Calls Tryz.prog 10 #[omV c s sa.wa sa.ka sa.va sa.ca sa.wc sa.kc sa.vc sa.cc gs ps mv ga pa gc pc] w (FreshHd2 w (lstL c s gs ps) (.int .i64 (omE c s gs ps))) := by
  have CK := Lib.hid (fun W (hb : Below w.heap.size w W) => Check15_ok c s sa gs ps mv ga pa gc pc hl hl2 hlg hlp W (hin.below hb) (hg.below hb) (hp.below hb))
  unfold lstL
  by_cases h : omE c s gs ps = 0
  · have AL := Lib.hid (fun W (hb : Below w.heap.size w W) => All15_in c s sa gs ps mv ga pa gc pc h W (hin.below hb) (hg.below hb) (hp.below hb))
    rw [if_pos h, h]
    rw [h] at CK
    exact List15_in c s sa.wa sa.ka sa.va sa.ca sa.wc sa.kc sa.vc sa.cc gs ps mv ga pa gc pc _ w CK AL
  · rw [if_neg h]
    exact List15_err c s sa.wa sa.ka sa.va sa.ca sa.wc sa.kc sa.vc sa.cc gs ps mv ga pa gc pc _ h w CK
theorem omList_ok (c : Cfg) (s : SlC) (sa : SlA) (gs ps : List Int) (mv : Int) (ga pa : Option Addr) (gc pc : Nat) (hl : s.ws.length ≤ 1000000000000) (hl2 : s.ks.length ≤ 1000000000000) (hlg : gs.length ≤ 1000000000) (hlp : ps.length ≤ 1000000000) (hcc : s.cs.length ≤ sa.cc) (w : World) (hin : SlIn w s sa) (hg : IsRow .i64 w ga gs) (hp : IsRow .i64 w pa ps) : Calls Tryz.prog 9 #[omV c s sa.wa sa.ka sa.va sa.ca sa.wc sa.kc sa.vc sa.cc gs ps mv ga pa gc pc] w (FreshHd2 w (lstL c s gs ps) (.int .i64 (omE c s gs ps))) := by
  have CK := Lib.hid (fun W (hb : Below w.heap.size w W) => omCheck_ok c s sa gs ps mv ga pa gc pc hl hl2 hlg hlp hcc W (hin.below hb) (hg.below hb) (hp.below hb))
  unfold lstL
  by_cases h : omE c s gs ps = 0
  · have h0 := (omE_zero h).1
    have hn := (om_nums h0 hin.u).1
    have hc := cntW_le s.ws 0 s.ks.length
    obtain ⟨hcm, a, H, k, -⟩ := gap_zero h0
    have hm := k.may
    have pe : partE s 0 (s.ks.length : Int) = 0 := by rw [partE, if_pos hm, if_pos ⟨by omega, by omega, by omega⟩]
    have PR : Hid (∀ W, Below w.heap.size w W → Calls Tryz.prog 29 #[slV s sa, .int .i64 0, .int .i64 s.ks.length] W (FreshPr2 W (prs s 0 s.ks.length) (.int .i64 0))) := Lib.hid fun W hb => by
      have := Pairs_ok s sa hl hl2 0 s.ks.length W (hin.below hb)
      rw [prsR, pe, if_pos rfl, Int.toNat_natCast] at this
      exact this
    rw [if_pos h, h]
    rw [h] at CK
    refine omList_in c s sa.wa sa.ka sa.va sa.ca sa.wc sa.kc sa.vc sa.cc gs ps mv ga pa gc pc (prs s 0 s.ks.length) (hdl s gs 0 s.ks.length) (plsW s.ws 0 s.ks.length).length (by rw [prs, List.length_map]) (by rw [hdl, List.length_map]) (by rw [plsW_length]; omega) (fun i hi => ?_) w hg CK PR
    obtain ⟨f1, f2, f3, f4⟩ := om_all h i hi
    have e : (prs s 0 s.ks.length).getD i (0, 0) = (s.ks.getD ((plsW s.ws 0 s.ks.length).getD i 0) 0, s.vs.getD ((plsW s.ws 0 s.ks.length).getD i 0) 0) := by
      have e : (plsW s.ws 0 s.ks.length)[i] = (plsW s.ws 0 s.ks.length).getD i 0 := by rw [List.getD_eq_getElem?_getD, List.getElem?_eq_getElem hi]; rfl
      rw [prs, List.getD_eq_getElem?_getD, List.getElem?_map, List.getElem?_eq_getElem hi, e]
      rfl
    rw [e]
    exact ⟨f2, f3, f4⟩
  · rw [if_neg h]
    exact omList_err c s sa.wa sa.ka sa.va sa.ca sa.wc sa.kc sa.vc sa.cc gs ps mv ga pa gc pc _ h w CK
end

section
open Go.RowKit

theorem newO_u (c : Cfg) : U64s (newC c).ws := by
  unfold newC
  split
  · rename_i h
    obtain ⟨S, M, h1, h2, h4, h6, hM, hm, pS, pM⟩ := least_nums h
    rw [emptyC_eq h1 h2 h4]
    exact (emptyL_gd h4 h6 hM hm 0).u
  · intro x hx; cases hx
theorem newO_len (c : Cfg) : (newC c).ws.length ≤ 1000000000 ∧ (newC c).ks.length ≤ 1000000000 ∧ (newC c).vs.length ≤ 1000000000 ∧ (newC c).cs.length ≤ 1000000000 := by
  unfold newC
  split
  · rename_i h
    obtain ⟨S, M, h1, h2, h4, h6, hM, hm, pS, pM⟩ := least_nums h
    rw [emptyC_eq h1 h2 h4]
    have g := emptyL_gd h4 h6 hM hm 0
    have h9 : 1 * M ≤ S * M := Nat.mul_le_mul_right _ (by omega)
    rw [g.elw, g.elk, g.elv, g.elc]
    omega
  · exact ⟨Nat.zero_le _, Nat.zero_le _, Nat.zero_le _, Nat.zero_le _⟩
theorem grO_lens {n : Nat} {s : SlC} {gs ps : List Int} (h : grO n s gs ps = false) : s.ks.length ≤ n ∧ s.vs.length ≤ n ∧ s.ws.length ≤ n ∧ s.cs.length ≤ n ∧ gs.length ≤ n ∧ ps.length ≤ n := by
  simp only [grO, gr4, Bool.or_eq_false_iff, decide_eq_false_iff_not] at h
  omega
theorem nil_row {w : World} {a : Option Addr} : IsRow .i64 w a [] := fun i hi => by cases hi
theorem OmTells_walk (w : World) (c : Cfg) (s : SlC) (sa : SlA) (gs ps : List Int) (mv : Int) (ga pa : Option Addr) (gc pc : Nat) (hin : SlIn w s sa) (z1 : sa.wa = none → sa.wc = 0) (z2 : sa.ka = none → sa.kc = 0) (z3 : sa.va = none → sa.vc = 0) (z4 : sa.ca = none → sa.cc = 0) (hg : IsRow .i64 w ga gs) (hp : IsRow .i64 w pa ps) (z5 : ga = none → gc = 0) (z6 : pa = none → pc = 0) (d : Cfg) (t : SlC) (ta : SlA) (gs' ps' : List Int) (mv' : Int) (ga' pa' : Option Addr) (gc' pc' : Nat) (hin' : SlIn w t ta) (_ : ta.wa = none → ta.wc = 0) (_ : ta.ka = none → ta.kc = 0) (_ : ta.va = none → ta.vc = 0) (_ : ta.ca = none → ta.cc = 0) (hg' : IsRow .i64 w ga' gs') (hp' : IsRow .i64 w pa' ps') (_ : ga' = none → gc' = 0) (_ : pa' = none → pc' = 0) (n g : Int) (_ : (Lit.int .i64 n).wf = true) (_ : (Lit.int .i64 g).wf = true) (n2 g2 : Int) (_ : (Lit.int .i64 n2).wf = true) (_ : (Lit.int .i64 g2).wf = true) :
    Calls Tryz.prog 3 #[omV c s sa.wa sa.ka sa.va sa.ca sa.wc sa.kc sa.vc sa.cc gs ps mv ga pa gc pc, omV d t ta.wa ta.ka ta.va ta.ca ta.wc ta.kc ta.vc ta.cc gs' ps' mv' ga' pa' gc' pc', .agg #[.int .i64 n, .int .i64 g], .agg #[.int .i64 n2, .int .i64 g2]] w (AnsB w (.bool true)) := by
  cases h1 : grO 600 s gs ps with
  | true => exact OT_g1 c s sa.wa sa.ka sa.va sa.ca sa.wc sa.kc sa.vc sa.cc gs ps mv ga pa gc pc d t ta.wa ta.ka ta.va ta.ca ta.wc ta.kc ta.vc ta.cc gs' ps' mv' ga' pa' gc' pc' n g n2 g2 w h1
  | false =>
    cases h2 : grO 600 t gs' ps' with
    | true => exact OT_g2 c s sa.wa sa.ka sa.va sa.ca sa.wc sa.kc sa.vc sa.cc gs ps mv ga pa gc pc d t ta.wa ta.ka ta.va ta.ca ta.wc ta.kc ta.vc ta.cc gs' ps' mv' ga' pa' gc' pc' n g n2 g2 w h1 h2
    | false =>
      obtain ⟨e1, e2, e3, e4, e5, e6⟩ := grO_lens h1
      have nl := newO_len c
      have hll : (lstL c s gs ps).length ≤ 1000000000 := by
        unfold lstL
        split
        · rw [hdl_length]
          have := cntW_le s.ws 0 s.ks.length
          omega
        · exact Nat.zero_le _
      exact OT_in c s sa.wa sa.ka sa.va sa.ca sa.wc sa.kc sa.vc sa.cc gs ps mv ga pa gc pc d t ta.wa ta.ka ta.va ta.ca ta.wc ta.kc ta.vc ta.cc gs' ps' mv' ga' pa' gc' pc' n g n2 g2 w h1 h2 (newF c) (newC c) (lstL c s gs ps) (cfE c) (omE c s gs ps) (cmpV c s gs ps n g n2 g2) (cmpE c s gs ps n g n2 g2) (labV c s gs ps n g) (labE c s gs ps n g) (omB c s gs ps mv d t gs' ps' mv') hin.u (newO_u c) (by omega) (by omega) (by omega) (by omega)
        (Lib.hid fun W hb => Twin15_ok c s sa.wa sa.ka sa.va sa.ca sa.wc sa.kc sa.vc sa.cc gs ps mv ga pa gc pc W (Lib.hid fun W' hb' => Twin04_ok s sa W' ((hin.below hb).below hb') (by omega) (by omega) (by omega) (by omega) z1 z2 z3 z4) (Lib.hid fun W' hb' => Twin14_ok ga pa gc pc gs ps W' ((hg.below hb).below hb') ((hp.below hb).below hb') (by omega) (by omega) z5 z6))
        (Lib.hid fun W a2 g3 p3 gc3 pc3 hb hi => omTwin_ok c s a2.wa a2.ka a2.va a2.ca a2.wc a2.kc a2.vc a2.cc gs ps mv g3 p3 gc3 pc3 W (Lib.hid fun W' hb' => (slTwin_ok s a2 W' (hi.sl.below hb') (by omega) (by omega) (by omega) (by omega)).mono fun e w' ⟨v1, v2, v3, v4, q0, q1, q2, q3, q4, q5, _⟩ => ⟨v1, v2, v3, v4, q0, q1, q2, q3, q4, q5⟩) (Lib.hid fun W' hb' => Twin_ok g3 p3 gc3 pc3 gs ps W' (hi.g.below hb') (hi.p.below hb') (by omega) (by omega)))
        (Lib.hid fun W _ => omNew_ok c W) (Lib.hid fun W _ => New15_ok c W)
        (Lib.hid fun W a2 g3 p3 gc3 pc3 hb hi hc => omList_ok c s a2 gs ps mv g3 p3 gc3 pc3 (by omega) (by omega) (by omega) (by omega) hc W hi.sl hi.g hi.p) (Lib.hid fun W hb => List15_ok c s sa gs ps mv ga pa gc pc (by omega) (by omega) (by omega) (by omega) W (hin.below hb) (hg.below hb) (hp.below hb))
        (Lib.hid fun W a2 g3 p3 gc3 pc3 hb hi hc => omCompare_ok c s a2 gs ps mv g3 p3 gc3 pc3 (by omega) (by omega) (by omega) (by omega) hc n g n2 g2 W hi.sl hi.g hi.p) (Lib.hid fun W hb => Compare15_ok c s sa gs ps mv ga pa gc pc (by omega) (by omega) (by omega) (by omega) n g n2 g2 W (hin.below hb) (hg.below hb) (hp.below hb))
        (Lib.hid fun W a2 g3 p3 gc3 pc3 hb hi hc => omLabel_ok c s a2 gs ps mv g3 p3 gc3 pc3 (by omega) (by omega) (by omega) (by omega) hc n g W hi.sl hi.g hi.p) (Lib.hid fun W hb => Label15_ok c s sa gs ps mv ga pa gc pc (by omega) (by omega) (by omega) (by omega) n g W (hin.below hb) (hg.below hb) (hp.below hb))
        (Lib.hid fun W a2 g3 p3 gc3 pc3 hb hi hc => omCheck_ok c s a2 gs ps mv g3 p3 gc3 pc3 (by omega) (by omega) (by omega) (by omega) hc W hi.sl hi.g hi.p) (Lib.hid fun W hb => Check15_ok c s sa gs ps mv ga pa gc pc (by omega) (by omega) (by omega) (by omega) W (hin.below hb) (hg.below hb) (hp.below hb))
        (Lib.hid fun W a2 g3 p3 gc3 pc3 hb hi => SmOm_ok c d s t a2 ta gs ps mv g3 p3 gc3 pc3 gs' ps' mv' ga' pa' gc' pc' W hi.sl (hin'.below hb) hi.g hi.p (hg'.below hb) (hp'.below hb) (by omega) (by omega) (by omega) (by omega) (by omega) (by omega)) (Lib.hid fun W hb => Sm15_ok c d s t sa ta gs ps mv ga pa gc pc gs' ps' mv' ga' pa' gc' pc' W (hin.below hb) (hin'.below hb) (hg.below hb) (hp.below hb) (hg'.below hb) (hp'.below hb) (by omega) (by omega) (by omega) (by omega) (by omega) (by omega))
        (Lib.hid fun W a2 g3 p3 gc3 pc3 hb hi => by have := SmOm_ok c c s s a2 sa gs ps mv g3 p3 gc3 pc3 gs ps mv ga pa gc pc W hi.sl (hin.below hb) hi.g hi.p (hg.below hb) (hp.below hb) (by omega) (by omega) (by omega) (by omega) (by omega) (by omega); rwa [omB_refl] at this)
        (Lib.hid fun W a2 g3 p3 gc3 pc3 hb hi => by have := Sm15_ok c c s s a2 sa gs ps mv g3 p3 gc3 pc3 gs ps mv ga pa gc pc W hi.sl (hin.below hb) hi.g hi.p (hg.below hb) (hp.below hb) (by omega) (by omega) (by omega) (by omega) (by omega) (by omega); rwa [omB_refl] at this)
        (Lib.hid fun W a2 g3 p3 gc3 pc3 a3 g4 p4 gc4 pc4 hb hi hi' => by have := Sm15_ok (newF c) (newF c) (newC c) (newC c) a2 a3 [] [] 0 g3 p3 gc3 pc3 [] [] 0 g4 p4 gc4 pc4 W hi hi' nil_row nil_row nil_row nil_row nl.1 nl.2.1 nl.2.2.1 nl.2.2.2 (Nat.zero_le _) (Nat.zero_le _); rwa [omB_refl] at this)
        (Lib.hid fun W xa ya xc yc ha hb => by have := SameHd_ok xa ya xc yc (lstL c s gs ps) (lstL c s gs ps) W ha hb hll; rwa [decide_eq_true (Eq.refl (lstL c s gs ps))] at this)
end
end Go.Proofs.YtjhpblejlchhjaaGreat

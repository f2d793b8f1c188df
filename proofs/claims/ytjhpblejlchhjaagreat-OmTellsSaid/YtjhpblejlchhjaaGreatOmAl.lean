/- The reference's All and Index; Label and Compare; two lists of handles, compared. -/
import Derived.Test.YtjhpblejlchhjaaGreatOmLk
namespace Go.Proofs.YtjhpblejlchhjaaGreat
set_option maxRecDepth 100000
set_option maxHeartbeats 4000000
open Go.RowKit Go.Shelf Go.Sort
set_option linter.unusedVariables false
set_option linter.unusedSimpArgs false

theorem hd_take_succ {xs ys : List (Int × Int)} {k : Nat} (hl : xs.length = ys.length) (hk : k < xs.length) (ht : xs.take k = ys.take k) (h1 : (xs.getD k (0, 0)).1 = (ys.getD k (0, 0)).1) (h2 : (xs.getD k (0, 0)).2 = (ys.getD k (0, 0)).2) : xs.take (k + 1) = ys.take (k + 1) := by
  have h : xs.getD k (0, 0) = ys.getD k (0, 0) := Prod.ext h1 h2
  rw [List.getD_eq_getElem?_getD, List.getD_eq_getElem?_getD, List.getElem?_eq_getElem hk, List.getElem?_eq_getElem (by omega), Option.getD_some, Option.getD_some] at h
  rw [List.take_succ_eq_append_getElem hk, List.take_succ_eq_append_getElem (by omega), ht, h]
theorem SameHd_ok (a b : Option Addr) (ca cb : Nat) (xs ys : List (Int × Int)) (w : World) (ha : IsRow .i64 w a (prI xs)) (hb : IsRow .i64 w b (prI ys)) (hm : xs.length ≤ 1000000000) :
    Calls Tryz.prog 20 #[.slice a xs.length ca, .slice b ys.length cb] w (AnsB w (.bool (decide (xs = ys)))) := by
  by_cases hlen : xs.length = ys.length
  · have hl1 : ((xs.length : Int) != (ys.length : Int)) = false := by simp [hlen]
    have HL := Lib.hid hlen
    clear hlen
    have HA := Lib.hid ha
    have HB := Lib.hid hb
    clear ha hb
    go_enter Tryz.func20, Tryz.ntmps20
    go_wp2
    go_loopg [5] xs.length (fun g i wr => ∃ (k n : Nat), k + g = xs.length ∧ i = .int .i64 k ∧ wr = w.drewN n ∧ xs.take k = ys.take k)
    case atStart => exact ⟨0, 0, by omega, rfl, rfl, by simp⟩
    case round =>
      obtain ⟨k, n, hk, rfl, rfl, ht⟩ := hrel
      have HT := Lib.hid ht
      clear ht
      by_cases hlt : k < xs.length
      · have hlt2 : k < ys.length := by rw [← HL.out]; exact hlt
        obtain ⟨b1, o1, rfl, c0, c1, z1⟩ := pr_get HA.out hlt
        obtain ⟨b2, o2, rfl, e0, e1, z2⟩ := pr_get HB.out hlt2
        have HX := Lib.hid (hd_take_succ (xs := xs) (ys := ys) (k := k) HL.out hlt HT.out)
        have HNE : Hid (¬ ((xs.getD k (0, 0)).1 = (ys.getD k (0, 0)).1 ∧ (xs.getD k (0, 0)).2 = (ys.getD k (0, 0)).2) → xs ≠ ys) := Lib.hid fun h e => h (by rw [e]; exact ⟨rfl, rfl⟩)
        generalize (xs.getD k (0, 0)).1 = x1 at *
        generalize (xs.getD k (0, 0)).2 = x2 at *
        generalize (ys.getD k (0, 0)).1 = y1 at *
        generalize (ys.getD k (0, 0)).2 = y2 at *
        by_cases h1 : x1 = y1
        · subst h1
          by_cases h2 : x2 = y2
          · subst h2
            have HX2 := Lib.hid (HX.out rfl rfl)
            clear HX HNE
            go_wp2
            go_quiet (fail)
            go_wp2
            go_roundg (gk - 1)
            case measure => omega
            case rel => exact ⟨k + 1, n + nq, by omega, by go_num, by simp, HX2.out⟩
          · have he : (x2 == y2) = false := by simpa using h2
            have HE := Lib.hid h2
            clear h2
            go_wp2
            go_quiet (fail)
            go_wp2
            go_ret
            exact ⟨by have : xs ≠ ys := HNE.out fun h => HE.out h.2
                      simp [this], below_drewN (below_drewN (Below.refl _ _) _) _⟩
        · have he : (x1 == y1) = false := by simpa using h1
          have HE := Lib.hid h1
          clear h1
          go_wp2
          go_quiet (fail)
          go_wp2
          go_ret
          exact ⟨by have : xs ≠ ys := HNE.out fun h => HE.out h.1
                    simp [this], below_drewN (below_drewN (Below.refl _ _) _) _⟩
      · go_wp2
        go_ret
        have : xs = ys := by
          have := HT.out
          rwa [List.take_of_length_le (by omega), List.take_of_length_le (by have := HL.out; omega)] at this
        exact ⟨by simp [this], below_drewN (Below.refl _ _) _⟩
  · have hl1 : ((xs.length : Int) != (ys.length : Int)) = true := by simp; omega
    have HL := Lib.hid hlen
    clear hlen ha hb
    go_enter Tryz.func20, Tryz.ntmps20
    go_wp2
    go_ret
    have : xs ≠ ys := fun e => HL.out (by rw [e])
    exact ⟨by simp [this], Below.refl _ _⟩
theorem info_Hd : (Tryz.prog.info? 35).map (fun i => (i.zero, i.size, i.bytes)) = some (some (.agg #[.int .i64 0, .int .i64 0]), 2, 16) := by kernel_rfl
def FreshHd (w : World) (l : List (Int × Int)) (e : Ending) (w' : World) : Prop :=
  ∃ v, e = .returned v ∧ w'.ownsRow w.heap.size 35 2 v l.length ((prI l).map (Value.int .i64)) ∧ Below w.heap.size w w'
def FreshHd2 (w : World) (l : List (Int × Int)) (x : Value) (e : Ending) (w' : World) : Prop :=
  ∃ v, e = .returned (.tuple #[v, x]) ∧ w'.ownsRow w.heap.size 35 2 v l.length ((prI l).map (Value.int .i64)) ∧ Below w.heap.size w w'
theorem take_hd {l : List (Int × Int)} {k : Nat} (h : k < l.length) {x y : Int} (hx : l.getD k (0, 0) = (x, y)) : l.take (k + 1) = l.take k ++ [(x, y)] := by
  rw [List.take_succ_eq_append_getElem h]
  rw [List.getD_eq_getElem?_getD, List.getElem?_eq_getElem h] at hx
  simp only [Option.getD_some] at hx
  rw [hx]
theorem All15_ok (c : Cfg) (s : SlC) (wa ka va ca : Option Addr) (wc kc vc cc : Nat) (gs ps : List Int) (mv : Int) (ga pa : Option Addr) (gc pc : Nat) (L : List Nat) (H : List (Int × Int)) (m : Nat) (hm : L.length = m) (hH : H.length = m) (hm2 : m ≤ 65536) (hg : ∀ i, i < m → L.getD i 0 < s.ks.length ∧ 0 ≤ s.ks.getD (L.getD i 0) 0 ∧ s.ks.getD (L.getD i 0) 0 < gs.length ∧ H.getD i (0, 0) = (s.ks.getD (L.getD i 0) 0, gs.getD (s.ks.getD (L.getD i 0) 0).toNat 0)) (w : World) (hk : IsRow .i64 w ka s.ks) (hgs : IsRow .i64 w ga gs)
    (PL : Hid (∀ W, Below w.heap.size w W → Calls Tryz.prog 53 #[.agg #[.int .i64 s.seg, .slice wa s.ws.length wc, .slice ka s.ks.length kc, .slice va s.vs.length vc, .slice ca s.cs.length cc, .int .u64 s.laid]] W (FreshInts W (ints L)))) :
    Calls Tryz.prog 30 #[.agg #[.int .u8 c.tag, .int .i64 c.most, .int .i64 c.seg, .int .i64 c.least, .int .i64 c.den, .int .i64 c.ll, .int .i64 c.rl, .int .i64 c.rh, .int .i64 c.lh, .int .i64 s.seg, .slice wa s.ws.length wc, .slice ka s.ks.length kc, .slice va s.vs.length vc, .slice ca s.cs.length cc, .int .u64 s.laid, .slice ga gs.length gc, .slice pa ps.length pc, .int .u64 mv]] w (FreshHd w H) := by
  have HLN := Lib.hid (ints_length L)
  have HLG := Lib.hid (fun (i : Nat) (z : Int) (h : (ints L).getD i 0 = z) => (show z = ((L.getD i 0 : Nat) : Int) by rw [← h, getD_ints]))
  have HGG := Lib.hid hg
  have HKS := Lib.hid hk
  have HGS := Lib.hid hgs
  have HM := Lib.hid hm
  have HHL := Lib.hid hH
  have HTK := Lib.hid (fun k (h : k < m) x y hx => take_hd (l := H) (k := k) (by rw [hH]; exact h) (x := x) (y := y) hx)
  clear hg hk hgs
  go_enter Tryz.func30, Tryz.ntmps30
  go_wp2_with fail
  refine (PL.out _ (by (exact xbel))).mono ?_
  rintro e w1 ⟨v, rfl, ho1, hb1⟩
  have hz_w1 := hb1.size
  try simp only [World.size_alloc, World.size_setCell] at hz_w1
  have hh := bc18 hb1 (al18 (b := w.heap.size) (by simp))
  obtain ⟨c_t0, c_t1, c_t2, c_t3, c_t4, c_t5, c_t6, c_t7, c_t8, c_t9, c_t10, c_t11, c_t12, c_t13, c_t14, c_t15, c_t16, c_t17⟩ := hh
  have z_t := blt hb1 (alz (b := w.heap.size) (by simp))
  have hB1 : Below w.heap.size w w1 := by (exact xbel)
  have HB1 := Lib.hid hB1
  have hz1 := hB1.size
  obtain ⟨la, lc, rfl, hi1, -, -, -, -⟩ := row_of_owns ho1
  rw [HLN.out, HM.out]
  have HI1 := Lib.hid hi1
  clear hb1 hB1 ho1 hi1
  go_wp2
  go_loopg [3, 5] m (fun gk hv iv wr => ∃ i : Nat, i + gk = m ∧ iv = .int .i64 i ∧ Hid (wr.ownsRow w1.heap.size 35 2 hv i ((prI (H.take i)).map (Value.int .i64))) ∧ Hid (Below w1.heap.size w1 wr))
  case atStart => exact ⟨0, by omega, rfl, Lib.hid (World.ownsRow_nil _ _ _ _), Lib.hid (Below.refl _ _)⟩
  case round =>
    obtain ⟨i, hi, rfl, HO, HB⟩ := hrel
    obtain ⟨ao, co, rfl, -⟩ := owns_news HO.out
    have hbr := HB.out
    have hz_wr := hbr.size
    try simp only [World.size_alloc, World.size_setCell] at hz_wr
    have hh := bc18 hbr ⟨c_t0, c_t1, c_t2, c_t3, c_t4, c_t5, c_t6, c_t7, c_t8, c_t9, c_t10, c_t11, c_t12, c_t13, c_t14, c_t15, c_t16, c_t17⟩
    clear c_t0 c_t1 c_t2 c_t3 c_t4 c_t5 c_t6 c_t7 c_t8 c_t9 c_t10 c_t11 c_t12 c_t13 c_t14 c_t15 c_t16 c_t17
    obtain ⟨c_t0, c_t1, c_t2, c_t3, c_t4, c_t5, c_t6, c_t7, c_t8, c_t9, c_t10, c_t11, c_t12, c_t13, c_t14, c_t15, c_t16, c_t17⟩ := hh
    replace z_t := blt hbr z_t
    have HB2 := Lib.hid (below_via hbr HB1.out hz1)
    by_cases hlt : i < m
    · obtain ⟨lb, lo, z0, rfl, hz0, hcl, -⟩ := (HI1.out.below hbr).get (i := i) (by rw [HLN.out, HM.out]; exact hlt)
      have hj := HLG.out i z0 hz0.out
      obtain ⟨hjn, hx0, hxg, hhg⟩ := HGG.out i hlt
      generalize L.getD i 0 = j at *
      subst hj
      obtain ⟨kb, ko, x, rfl, hx, hck, -⟩ := (HKS.out.below HB2.out).get (i := j) hjn
      rw [hx.out] at hx0 hxg hhg
      obtain ⟨xn, rfl⟩ : ∃ xn : Nat, x = xn := ⟨x.toNat, by omega⟩
      rw [Int.toNat_natCast] at hhg
      have hxn : xn < gs.length := by omega
      obtain ⟨gb, go, g, rfl, hgx, hcg, -⟩ := (HGS.out.below HB2.out).get (i := xn) hxn
      rw [hgx.out] at hhg
      have HT := Lib.hid (HTK.out i hlt _ _ hhg)
      have hlt1 : (prI (H.take i)).length = i * 2 := by rw [prI_length, List.length_take, HHL.out]; omega
      clear hbr hz0 hx hgx hhg
      go_wp2
      go_quiet (fail)
      obtain ⟨wq, hwq⟩ : ∃ wq, wr.drewN nq = wq := ⟨_, rfl⟩
      have hbq : Below wr.heap.size wr wq := by rw [← hwq]; exact below_drewN (Below.refl _ _) _
      have HOq := Lib.hid (owns_below HO.out hbq)
      have HBq := Lib.hid (below_via hbq HB.out HB.out.size)
      have hcg2 := (hbq.cell (World.block_lt_of_cell? _ _ hcg)).trans hcg
      rw [hwq]
      have hz_wq := hbq.size
      try simp only [World.size_alloc, World.size_setCell] at hz_wq
      have hh := bc18 hbq ⟨c_t0, c_t1, c_t2, c_t3, c_t4, c_t5, c_t6, c_t7, c_t8, c_t9, c_t10, c_t11, c_t12, c_t13, c_t14, c_t15, c_t16, c_t17⟩
      clear c_t0 c_t1 c_t2 c_t3 c_t4 c_t5 c_t6 c_t7 c_t8 c_t9 c_t10 c_t11 c_t12 c_t13 c_t14 c_t15 c_t16 c_t17
      obtain ⟨c_t0, c_t1, c_t2, c_t3, c_t4, c_t5, c_t6, c_t7, c_t8, c_t9, c_t10, c_t11, c_t12, c_t13, c_t14, c_t15, c_t16, c_t17⟩ := hh
      replace z_t := blt hbq z_t
      have hzq := HBq.out.size
      clear hwq hbq hcl hck hcg
      go_wp2_with (at_builtin; refine wpl_append (.tmp 25) (.tmp 34) 43 35 (.agg #[.int .i64 0, .int .i64 0]) 2 16 Tryz.underlying43 info_Hd rfl (by decide) (by decide) w1.heap.size _ i _ (some ⟨wq.heap.size, 0, none⟩) 1 1 [.int .i64 xn, .int .i64 g] (HOq.out.alloc _) rfl (fun h => by cases h) (new_cells _ [.int .i64 xn, .int .i64 g] _ _ rfl) (by simp [Value.oneCell']) (by omega) (by simp; omega) rfl rfl rfl rfl ?_; intro v2 w3 ho2 hg2 _
                   obtain ⟨a2, c2, rfl, -⟩ := owns_news ho2
                   have HO2 := Lib.hid ho2
                   have HG2 := Lib.hid hg2
                   clear ho2 hg2)
      have HB3 := Lib.hid ((HBq.out.alloc hzq (.cells #[.int .i64 xn, .int .i64 g] 35)).grown HG2.out (by simp; omega) (fun z hz => (HOq.out.lt z hz).1))
      go_roundg (gk - 1)
      case measure => omega
      case rel =>
        refine ⟨i + 1, by omega, by go_num, Lib.hid ?_, HB3⟩
        rw [HT.out, prI_append, List.map_append]
        exact HO2.out
    · have him : i = m := by omega
      subst him
      clear hbr
      go_wp2
      go_ret
      refine ⟨_, rfl, ?_, HB2.out⟩
      have e := HO.out
      rw [List.take_of_length_le (by rw [HHL.out]; exact Nat.le_refl _)] at e
      rw [HHL.out]
      exact owns_base e hz1
theorem Index15_ok (c : Cfg) (s : SlC) (wa ka va ca : Option Addr) (wc kc vc cc : Nat) (gs ps : List Int) (mv : Int) (ga pa : Option Addr) (gc pc : Nat) (H : List (Int × Int)) (hm2 : H.length ≤ 65536) (n g : Int) (w : World)
    (AL : Hid (∀ W, Below w.heap.size w W → Calls Tryz.prog 30 #[.agg #[.int .u8 c.tag, .int .i64 c.most, .int .i64 c.seg, .int .i64 c.least, .int .i64 c.den, .int .i64 c.ll, .int .i64 c.rl, .int .i64 c.rh, .int .i64 c.lh, .int .i64 s.seg, .slice wa s.ws.length wc, .slice ka s.ks.length kc, .slice va s.vs.length vc, .slice ca s.cs.length cc, .int .u64 s.laid, .slice ga gs.length gc, .slice pa ps.length pc, .int .u64 mv]] W (FreshHd W H))) :
    Calls Tryz.prog 31 #[.agg #[.int .u8 c.tag, .int .i64 c.most, .int .i64 c.seg, .int .i64 c.least, .int .i64 c.den, .int .i64 c.ll, .int .i64 c.rl, .int .i64 c.rh, .int .i64 c.lh, .int .i64 s.seg, .slice wa s.ws.length wc, .slice ka s.ks.length kc, .slice va s.vs.length vc, .slice ca s.cs.length cc, .int .u64 s.laid, .slice ga gs.length gc, .slice pa ps.length pc, .int .u64 mv], .agg #[.int .i64 n, .int .i64 g]] w (AnsB w (.int .i64 (idxL H n g))) := by
  have HYES := Lib.hid (fun k (hk : k < H.length) h hb => idxL_at (l := H) (n := n) (g := g) (k := k) hk h hb)
  have HNO := Lib.hid (fun hb => idxL_none (l := H) (n := n) (g := g) hb)
  generalize idxL H n g = r at *
  go_enter Tryz.func31, Tryz.ntmps31
  go_upto_region 1 with (fail)
  generalize hw0 : ((w.alloc (.cells #[.int .u8 c.tag, .int .i64 c.most, .int .i64 c.seg, .int .i64 c.least, .int .i64 c.den, .int .i64 c.ll, .int .i64 c.rl, .int .i64 c.rh, .int .i64 c.lh, .int .i64 s.seg, .slice wa s.ws.length wc, .slice ka s.ks.length kc, .slice va s.vs.length vc, .slice ca s.cs.length cc, .int .u64 s.laid, .slice ga gs.length gc, .slice pa ps.length pc, .int .u64 mv] 33)).alloc (.cells #[.int .i64 n, .int .i64 g] 35)) = w0
  have hh := ec18 hw0 (au18 (al18 (b := w.heap.size) (by simp)))
  obtain ⟨c_t0, c_t1, c_t2, c_t3, c_t4, c_t5, c_t6, c_t7, c_t8, c_t9, c_t10, c_t11, c_t12, c_t13, c_t14, c_t15, c_t16, c_t17⟩ := hh
  have z_t := elt hw0 (auz (alz (b := w.heap.size) (by simp)))
  have hh := ec2 hw0 (al2 (b := w.heap.size + 1) (by simp))
  obtain ⟨c_h0, c_h1⟩ := hh
  have z_h := elt hw0 (alz (b := w.heap.size + 1) (by simp))
  have HB0 : Hid (Below w.heap.size w w0) := by rw [← hw0]; exact Lib.hid (((Below.refl _ _).alloc (by first | exact Nat.le_refl _ | (simp; done) | (simp; omega)) _).alloc (by first | exact Nat.le_refl _ | (simp; done) | (simp; omega)) _)
  clear hw0
  go_wp2_with (refine wpl_load 33 (.tmp 2) (w.heap.size) [.int .u8 c.tag, .int .i64 c.most, .int .i64 c.seg, .int .i64 c.least, .int .i64 c.den, .int .i64 c.ll, .int .i64 c.rl, .int .i64 c.rh, .int .i64 c.lh, .int .i64 s.seg, .slice wa s.ws.length wc, .slice ka s.ks.length kc, .slice va s.vs.length vc, .slice ca s.cs.length cc, .int .u64 s.laid, .slice ga gs.length gc, .slice pa ps.length pc, .int .u64 mv] rfl rfl rfl Tryz.underlying33 rfl (by kernel_rfl) (list18 ⟨c_t0, c_t1, c_t2, c_t3, c_t4, c_t5, c_t6, c_t7, c_t8, c_t9, c_t10, c_t11, c_t12, c_t13, c_t14, c_t15, c_t16, c_t17⟩) ?_)
  go_wp2_with fail
  refine (AL.out _ HB0.out).mono ?_
  rintro e w1 ⟨v, rfl, ho1, hb1⟩
  have hz_w1 := hb1.size
  try simp only [World.size_alloc, World.size_setCell] at hz_w1
  have hh := bc18 hb1 ⟨c_t0, c_t1, c_t2, c_t3, c_t4, c_t5, c_t6, c_t7, c_t8, c_t9, c_t10, c_t11, c_t12, c_t13, c_t14, c_t15, c_t16, c_t17⟩
  clear c_t0 c_t1 c_t2 c_t3 c_t4 c_t5 c_t6 c_t7 c_t8 c_t9 c_t10 c_t11 c_t12 c_t13 c_t14 c_t15 c_t16 c_t17
  obtain ⟨c_t0, c_t1, c_t2, c_t3, c_t4, c_t5, c_t6, c_t7, c_t8, c_t9, c_t10, c_t11, c_t12, c_t13, c_t14, c_t15, c_t16, c_t17⟩ := hh
  replace z_t := blt hb1 z_t
  have hh := bc2 hb1 ⟨c_h0, c_h1⟩
  clear c_h0 c_h1
  obtain ⟨c_h0, c_h1⟩ := hh
  replace z_h := blt hb1 z_h
  have hB1 : Below w.heap.size w w1 := below_via hb1 HB0.out HB0.out.size
  have HB1 := Lib.hid hB1
  obtain ⟨la, lc, rfl, hi1, -, -, -, -⟩ := row_of_owns ho1
  have HI1 := Lib.hid hi1
  clear hb1 hB1 ho1 hi1
  go_wp2
  go_loopg [6] H.length (fun gk iv wr => ∃ (i q : Nat), i + gk = H.length ∧ iv = .int .i64 i ∧ wr = w1.drewN q ∧ Hid (∀ j, j < i → H.getD j (0, 0) ≠ (n, g)))
  case atStart => exact ⟨0, 0, by omega, rfl, rfl, Lib.hid (fun j hj => by omega)⟩
  case round =>
    obtain ⟨i, q, hi, rfl, rfl, HT⟩ := hrel
    have HB2 := Lib.hid (below_drewN HB1.out q)
    by_cases hlt : i < H.length
    · obtain ⟨b1, o1, rfl, c0, c1, z1⟩ := pr_get HI1.out hlt
      have HE := Lib.hid (fun (h : H.getD i (0, 0) = (n, g)) => HYES.out i hlt h HT.out)
      have hpe : H.getD i (0, 0) = ((H.getD i (0, 0)).1, (H.getD i (0, 0)).2) := rfl
      generalize (H.getD i (0, 0)).1 = x1 at *
      generalize (H.getD i (0, 0)).2 = x2 at *
      have HP := Lib.hid hpe
      clear hpe
      by_cases h1 : x1 = n
      · subst h1
        by_cases h2 : x2 = g
        · subst h2
          have hr := HE.out HP.out
          subst hr
          clear HE HP HYES HNO
          go_wp2
          go_quiet (fail)
          go_wp2
          go_ret
          exact ⟨rfl, below_drewN HB2.out _⟩
        · have he : (x2 == g) = false := by simpa using h2
          have HN := Lib.hid (fun (h : H.getD i (0, 0) = (x1, g)) => h2 (by rw [HP.out] at h; exact (Prod.mk.inj h).2))
          clear h2 HE HP
          go_wp2
          go_quiet (fail)
          go_wp2
          go_roundg (gk - 1)
          case measure => omega
          case rel => exact ⟨i + 1, _, by omega, by go_num, by first | rfl | simp, Lib.hid (fun j hj => by
            rcases Nat.lt_or_ge j i with q | q
            · exact HT.out j q
            · rw [show j = i by omega]; exact HN.out)⟩
      · have he : (x1 == n) = false := by simpa using h1
        have HN := Lib.hid (fun (h : H.getD i (0, 0) = (n, g)) => h1 (by rw [HP.out] at h; exact (Prod.mk.inj h).1))
        clear h1 HE HP
        go_wp2
        go_quiet (fail)
        go_wp2
        go_roundg (gk - 1)
        case measure => omega
        case rel => exact ⟨i + 1, _, by omega, by go_num, by first | rfl | simp, Lib.hid (fun j hj => by
          rcases Nat.lt_or_ge j i with q | q
          · exact HT.out j q
          · rw [show j = i by omega]; exact HN.out)⟩
    · have him : i = H.length := by omega
      have hr := HNO.out (fun j hj => HT.out j (by omega))
      subst hr
      clear HYES HNO
      go_wp2
      go_ret
      exact ⟨rfl, HB2.out⟩
theorem Label15_err (c : Cfg) (s : SlC) (wa ka va ca : Option Addr) (wc kc vc cc : Nat) (gs ps : List Int) (mv : Int) (ga pa : Option Addr) (gc pc : Nat) (n g e : Int) (he : e ≠ 0) (w : World) (CK : Hid (∀ W, Below w.heap.size w W → Calls Tryz.prog 16 #[.agg #[.int .u8 c.tag, .int .i64 c.most, .int .i64 c.seg, .int .i64 c.least, .int .i64 c.den, .int .i64 c.ll, .int .i64 c.rl, .int .i64 c.rh, .int .i64 c.lh, .int .i64 s.seg, .slice wa s.ws.length wc, .slice ka s.ks.length kc, .slice va s.vs.length vc, .slice ca s.cs.length cc, .int .u64 s.laid, .slice ga gs.length gc, .slice pa ps.length pc, .int .u64 mv]] W (AnsB W (.int .i64 e)))) :
    Calls Tryz.prog 14 #[.agg #[.int .u8 c.tag, .int .i64 c.most, .int .i64 c.seg, .int .i64 c.least, .int .i64 c.den, .int .i64 c.ll, .int .i64 c.rl, .int .i64 c.rh, .int .i64 c.lh, .int .i64 s.seg, .slice wa s.ws.length wc, .slice ka s.ks.length kc, .slice va s.vs.length vc, .slice ca s.cs.length cc, .int .u64 s.laid, .slice ga gs.length gc, .slice pa ps.length pc, .int .u64 mv], .agg #[.int .i64 n, .int .i64 g]] w (AnsB w (.tuple #[.int .i64 0, .int .i64 e])) := by
  have g1 : (e != 0) = true := by simpa using he
  go_enter Tryz.func14, Tryz.ntmps14
  go_upto_region 1 with (fail)
  generalize hw0 : ((w.alloc (.cells #[.int .u8 c.tag, .int .i64 c.most, .int .i64 c.seg, .int .i64 c.least, .int .i64 c.den, .int .i64 c.ll, .int .i64 c.rl, .int .i64 c.rh, .int .i64 c.lh, .int .i64 s.seg, .slice wa s.ws.length wc, .slice ka s.ks.length kc, .slice va s.vs.length vc, .slice ca s.cs.length cc, .int .u64 s.laid, .slice ga gs.length gc, .slice pa ps.length pc, .int .u64 mv] 33)).alloc (.cells #[.int .i64 n, .int .i64 g] 35)) = w0
  have hh := ec18 hw0 (au18 (al18 (b := w.heap.size) (by simp)))
  obtain ⟨c_t0, c_t1, c_t2, c_t3, c_t4, c_t5, c_t6, c_t7, c_t8, c_t9, c_t10, c_t11, c_t12, c_t13, c_t14, c_t15, c_t16, c_t17⟩ := hh
  have z_t := elt hw0 (auz (alz (b := w.heap.size) (by simp)))
  have hh := ec2 hw0 (al2 (b := w.heap.size + 1) (by simp))
  obtain ⟨c_h0, c_h1⟩ := hh
  have z_h := elt hw0 (alz (b := w.heap.size + 1) (by simp))
  have HB0 : Hid (Below w.heap.size w w0) := by rw [← hw0]; exact Lib.hid (((Below.refl _ _).alloc (by first | exact Nat.le_refl _ | (simp; done) | (simp; omega)) _).alloc (by first | exact Nat.le_refl _ | (simp; done) | (simp; omega)) _)
  clear hw0
  go_wp2_with (refine wpl_load 33 (.tmp 2) (w.heap.size) [.int .u8 c.tag, .int .i64 c.most, .int .i64 c.seg, .int .i64 c.least, .int .i64 c.den, .int .i64 c.ll, .int .i64 c.rl, .int .i64 c.rh, .int .i64 c.lh, .int .i64 s.seg, .slice wa s.ws.length wc, .slice ka s.ks.length kc, .slice va s.vs.length vc, .slice ca s.cs.length cc, .int .u64 s.laid, .slice ga gs.length gc, .slice pa ps.length pc, .int .u64 mv] rfl rfl rfl Tryz.underlying33 rfl (by kernel_rfl) (list18 ⟨c_t0, c_t1, c_t2, c_t3, c_t4, c_t5, c_t6, c_t7, c_t8, c_t9, c_t10, c_t11, c_t12, c_t13, c_t14, c_t15, c_t16, c_t17⟩) ?_)
  go_wp2_with fail
  refine (CK.out _ HB0.out).mono ?_
  rintro e w1 ⟨rfl, hb1⟩
  have hz_w1 := hb1.size
  try simp only [World.size_alloc, World.size_setCell] at hz_w1
  have hh := bc18 hb1 ⟨c_t0, c_t1, c_t2, c_t3, c_t4, c_t5, c_t6, c_t7, c_t8, c_t9, c_t10, c_t11, c_t12, c_t13, c_t14, c_t15, c_t16, c_t17⟩
  clear c_t0 c_t1 c_t2 c_t3 c_t4 c_t5 c_t6 c_t7 c_t8 c_t9 c_t10 c_t11 c_t12 c_t13 c_t14 c_t15 c_t16 c_t17
  obtain ⟨c_t0, c_t1, c_t2, c_t3, c_t4, c_t5, c_t6, c_t7, c_t8, c_t9, c_t10, c_t11, c_t12, c_t13, c_t14, c_t15, c_t16, c_t17⟩ := hh
  replace z_t := blt hb1 z_t
  have hh := bc2 hb1 ⟨c_h0, c_h1⟩
  clear c_h0 c_h1
  obtain ⟨c_h0, c_h1⟩ := hh
  replace z_h := blt hb1 z_h
  have hB1 : Below w.heap.size w w1 := below_via hb1 HB0.out HB0.out.size
  go_wp2
  go_ret2
  exact ⟨rfl, hB1⟩
theorem omLabel_err (c : Cfg) (s : SlC) (wa ka va ca : Option Addr) (wc kc vc cc : Nat) (gs ps : List Int) (mv : Int) (ga pa : Option Addr) (gc pc : Nat) (n g e : Int) (he : e ≠ 0) (w : World) (CK : Hid (∀ W, Below w.heap.size w W → Calls Tryz.prog 15 #[.agg #[.int .u8 c.tag, .int .i64 c.most, .int .i64 c.seg, .int .i64 c.least, .int .i64 c.den, .int .i64 c.ll, .int .i64 c.rl, .int .i64 c.rh, .int .i64 c.lh, .int .i64 s.seg, .slice wa s.ws.length wc, .slice ka s.ks.length kc, .slice va s.vs.length vc, .slice ca s.cs.length cc, .int .u64 s.laid, .slice ga gs.length gc, .slice pa ps.length pc, .int .u64 mv]] W (AnsB W (.int .i64 e)))) :
    Calls Tryz.prog 13 #[.agg #[.int .u8 c.tag, .int .i64 c.most, .int .i64 c.seg, .int .i64 c.least, .int .i64 c.den, .int .i64 c.ll, .int .i64 c.rl, .int .i64 c.rh, .int .i64 c.lh, .int .i64 s.seg, .slice wa s.ws.length wc, .slice ka s.ks.length kc, .slice va s.vs.length vc, .slice ca s.cs.length cc, .int .u64 s.laid, .slice ga gs.length gc, .slice pa ps.length pc, .int .u64 mv], .agg #[.int .i64 n, .int .i64 g]] w (AnsB w (.tuple #[.int .i64 0, .int .i64 e])) := by
  have g1 : (e != 0) = true := by simpa using he
  go_enter Tryz.func13, Tryz.ntmps13
  go_upto_region 1 with (fail)
  generalize hw0 : ((w.alloc (.cells #[.int .u8 c.tag, .int .i64 c.most, .int .i64 c.seg, .int .i64 c.least, .int .i64 c.den, .int .i64 c.ll, .int .i64 c.rl, .int .i64 c.rh, .int .i64 c.lh, .int .i64 s.seg, .slice wa s.ws.length wc, .slice ka s.ks.length kc, .slice va s.vs.length vc, .slice ca s.cs.length cc, .int .u64 s.laid, .slice ga gs.length gc, .slice pa ps.length pc, .int .u64 mv] 33)).alloc (.cells #[.int .i64 n, .int .i64 g] 35)) = w0
  have hh := ec18 hw0 (au18 (al18 (b := w.heap.size) (by simp)))
  obtain ⟨c_t0, c_t1, c_t2, c_t3, c_t4, c_t5, c_t6, c_t7, c_t8, c_t9, c_t10, c_t11, c_t12, c_t13, c_t14, c_t15, c_t16, c_t17⟩ := hh
  have z_t := elt hw0 (auz (alz (b := w.heap.size) (by simp)))
  have hh := ec2 hw0 (al2 (b := w.heap.size + 1) (by simp))
  obtain ⟨c_h0, c_h1⟩ := hh
  have z_h := elt hw0 (alz (b := w.heap.size + 1) (by simp))
  have HB0 : Hid (Below w.heap.size w w0) := by rw [← hw0]; exact Lib.hid (((Below.refl _ _).alloc (by first | exact Nat.le_refl _ | (simp; done) | (simp; omega)) _).alloc (by first | exact Nat.le_refl _ | (simp; done) | (simp; omega)) _)
  clear hw0
  go_wp2_with (refine wpl_load 33 (.tmp 2) (w.heap.size) [.int .u8 c.tag, .int .i64 c.most, .int .i64 c.seg, .int .i64 c.least, .int .i64 c.den, .int .i64 c.ll, .int .i64 c.rl, .int .i64 c.rh, .int .i64 c.lh, .int .i64 s.seg, .slice wa s.ws.length wc, .slice ka s.ks.length kc, .slice va s.vs.length vc, .slice ca s.cs.length cc, .int .u64 s.laid, .slice ga gs.length gc, .slice pa ps.length pc, .int .u64 mv] rfl rfl rfl Tryz.underlying33 rfl (by kernel_rfl) (list18 ⟨c_t0, c_t1, c_t2, c_t3, c_t4, c_t5, c_t6, c_t7, c_t8, c_t9, c_t10, c_t11, c_t12, c_t13, c_t14, c_t15, c_t16, c_t17⟩) ?_)
  go_wp2_with fail
  refine (CK.out _ HB0.out).mono ?_
  rintro e w1 ⟨rfl, hb1⟩
  have hz_w1 := hb1.size
  try simp only [World.size_alloc, World.size_setCell] at hz_w1
  have hh := bc18 hb1 ⟨c_t0, c_t1, c_t2, c_t3, c_t4, c_t5, c_t6, c_t7, c_t8, c_t9, c_t10, c_t11, c_t12, c_t13, c_t14, c_t15, c_t16, c_t17⟩
  clear c_t0 c_t1 c_t2 c_t3 c_t4 c_t5 c_t6 c_t7 c_t8 c_t9 c_t10 c_t11 c_t12 c_t13 c_t14 c_t15 c_t16 c_t17
  obtain ⟨c_t0, c_t1, c_t2, c_t3, c_t4, c_t5, c_t6, c_t7, c_t8, c_t9, c_t10, c_t11, c_t12, c_t13, c_t14, c_t15, c_t16, c_t17⟩ := hh
  replace z_t := blt hb1 z_t
  have hh := bc2 hb1 ⟨c_h0, c_h1⟩
  clear c_h0 c_h1
  obtain ⟨c_h0, c_h1⟩ := hh
  replace z_h := blt hb1 z_h
  have hB1 : Below w.heap.size w w1 := below_via hb1 HB0.out HB0.out.size
  go_wp2
  go_ret2
  exact ⟨rfl, hB1⟩
theorem omLabel_in (c : Cfg) (s : SlC) (wa ka va ca : Option Addr) (wc kc vc cc : Nat) (gs ps : List Int) (mv : Int) (ga pa : Option Addr) (gc pc : Nat) (n g : Int) (x e : Int) (w : World) (CK : Hid (∀ W, Below w.heap.size w W → Calls Tryz.prog 15 #[.agg #[.int .u8 c.tag, .int .i64 c.most, .int .i64 c.seg, .int .i64 c.least, .int .i64 c.den, .int .i64 c.ll, .int .i64 c.rl, .int .i64 c.rh, .int .i64 c.lh, .int .i64 s.seg, .slice wa s.ws.length wc, .slice ka s.ks.length kc, .slice va s.vs.length vc, .slice ca s.cs.length cc, .int .u64 s.laid, .slice ga gs.length gc, .slice pa ps.length pc, .int .u64 mv]] W (AnsB W (.int .i64 0)))) (FD : Hid (∀ W, Below w.heap.size w W → Calls Tryz.prog 32 #[.agg #[.slice ga gs.length gc, .slice pa ps.length pc], .agg #[.int .i64 n, .int .i64 g]] W (AnsB W (.tuple #[.int .i64 x, .int .i64 e])))) :
    Calls Tryz.prog 13 #[.agg #[.int .u8 c.tag, .int .i64 c.most, .int .i64 c.seg, .int .i64 c.least, .int .i64 c.den, .int .i64 c.ll, .int .i64 c.rl, .int .i64 c.rh, .int .i64 c.lh, .int .i64 s.seg, .slice wa s.ws.length wc, .slice ka s.ks.length kc, .slice va s.vs.length vc, .slice ca s.cs.length cc, .int .u64 s.laid, .slice ga gs.length gc, .slice pa ps.length pc, .int .u64 mv], .agg #[.int .i64 n, .int .i64 g]] w (AnsB w (.tuple #[.int .i64 x, .int .i64 e])) := by
  go_enter Tryz.func13, Tryz.ntmps13
  go_upto_region 1 with (fail)
  generalize hw0 : ((w.alloc (.cells #[.int .u8 c.tag, .int .i64 c.most, .int .i64 c.seg, .int .i64 c.least, .int .i64 c.den, .int .i64 c.ll, .int .i64 c.rl, .int .i64 c.rh, .int .i64 c.lh, .int .i64 s.seg, .slice wa s.ws.length wc, .slice ka s.ks.length kc, .slice va s.vs.length vc, .slice ca s.cs.length cc, .int .u64 s.laid, .slice ga gs.length gc, .slice pa ps.length pc, .int .u64 mv] 33)).alloc (.cells #[.int .i64 n, .int .i64 g] 35)) = w0
  have hh := ec18 hw0 (au18 (al18 (b := w.heap.size) (by simp)))
  obtain ⟨c_t0, c_t1, c_t2, c_t3, c_t4, c_t5, c_t6, c_t7, c_t8, c_t9, c_t10, c_t11, c_t12, c_t13, c_t14, c_t15, c_t16, c_t17⟩ := hh
  have z_t := elt hw0 (auz (alz (b := w.heap.size) (by simp)))
  have hh := ec2 hw0 (al2 (b := w.heap.size + 1) (by simp))
  obtain ⟨c_h0, c_h1⟩ := hh
  have z_h := elt hw0 (alz (b := w.heap.size + 1) (by simp))
  have HB0 : Hid (Below w.heap.size w w0) := by rw [← hw0]; exact Lib.hid (((Below.refl _ _).alloc (by first | exact Nat.le_refl _ | (simp; done) | (simp; omega)) _).alloc (by first | exact Nat.le_refl _ | (simp; done) | (simp; omega)) _)
  clear hw0
  go_wp2_with (refine wpl_load 33 (.tmp 2) (w.heap.size) [.int .u8 c.tag, .int .i64 c.most, .int .i64 c.seg, .int .i64 c.least, .int .i64 c.den, .int .i64 c.ll, .int .i64 c.rl, .int .i64 c.rh, .int .i64 c.lh, .int .i64 s.seg, .slice wa s.ws.length wc, .slice ka s.ks.length kc, .slice va s.vs.length vc, .slice ca s.cs.length cc, .int .u64 s.laid, .slice ga gs.length gc, .slice pa ps.length pc, .int .u64 mv] rfl rfl rfl Tryz.underlying33 rfl (by kernel_rfl) (list18 ⟨c_t0, c_t1, c_t2, c_t3, c_t4, c_t5, c_t6, c_t7, c_t8, c_t9, c_t10, c_t11, c_t12, c_t13, c_t14, c_t15, c_t16, c_t17⟩) ?_)
  go_wp2_with fail
  refine (CK.out _ HB0.out).mono ?_
  rintro e w1 ⟨rfl, hb1⟩
  have hz_w1 := hb1.size
  try simp only [World.size_alloc, World.size_setCell] at hz_w1
  have hh := bc18 hb1 ⟨c_t0, c_t1, c_t2, c_t3, c_t4, c_t5, c_t6, c_t7, c_t8, c_t9, c_t10, c_t11, c_t12, c_t13, c_t14, c_t15, c_t16, c_t17⟩
  clear c_t0 c_t1 c_t2 c_t3 c_t4 c_t5 c_t6 c_t7 c_t8 c_t9 c_t10 c_t11 c_t12 c_t13 c_t14 c_t15 c_t16 c_t17
  obtain ⟨c_t0, c_t1, c_t2, c_t3, c_t4, c_t5, c_t6, c_t7, c_t8, c_t9, c_t10, c_t11, c_t12, c_t13, c_t14, c_t15, c_t16, c_t17⟩ := hh
  replace z_t := blt hb1 z_t
  have hh := bc2 hb1 ⟨c_h0, c_h1⟩
  clear c_h0 c_h1
  obtain ⟨c_h0, c_h1⟩ := hh
  replace z_h := blt hb1 z_h
  have hB1 : Below w.heap.size w w1 := below_via hb1 HB0.out HB0.out.size
  have HB1 := Lib.hid hB1
  clear hb1 hB1
  go_wp2_with fail
  refine (FD.out _ HB1.out).mono ?_
  rintro e w2 ⟨rfl, hb2⟩
  have hz_w2 := hb2.size
  try simp only [World.size_alloc, World.size_setCell] at hz_w2
  have hh := bc18 hb2 ⟨c_t0, c_t1, c_t2, c_t3, c_t4, c_t5, c_t6, c_t7, c_t8, c_t9, c_t10, c_t11, c_t12, c_t13, c_t14, c_t15, c_t16, c_t17⟩
  clear c_t0 c_t1 c_t2 c_t3 c_t4 c_t5 c_t6 c_t7 c_t8 c_t9 c_t10 c_t11 c_t12 c_t13 c_t14 c_t15 c_t16 c_t17
  obtain ⟨c_t0, c_t1, c_t2, c_t3, c_t4, c_t5, c_t6, c_t7, c_t8, c_t9, c_t10, c_t11, c_t12, c_t13, c_t14, c_t15, c_t16, c_t17⟩ := hh
  replace z_t := blt hb2 z_t
  have hh := bc2 hb2 ⟨c_h0, c_h1⟩
  clear c_h0 c_h1
  obtain ⟨c_h0, c_h1⟩ := hh
  replace z_h := blt hb2 z_h
  have HB2 := Lib.hid (below_via hb2 HB1.out HB1.out.size)
  go_wp2
  go_ret2
  exact ⟨rfl, HB2.out⟩
theorem Label15_no (c : Cfg) (s : SlC) (wa ka va ca : Option Addr) (wc kc vc cc : Nat) (gs ps : List Int) (mv : Int) (ga pa : Option Addr) (gc pc : Nat) (n g r : Int) (hr : r < 0) (w : World) (CK : Hid (∀ W, Below w.heap.size w W → Calls Tryz.prog 16 #[.agg #[.int .u8 c.tag, .int .i64 c.most, .int .i64 c.seg, .int .i64 c.least, .int .i64 c.den, .int .i64 c.ll, .int .i64 c.rl, .int .i64 c.rh, .int .i64 c.lh, .int .i64 s.seg, .slice wa s.ws.length wc, .slice ka s.ks.length kc, .slice va s.vs.length vc, .slice ca s.cs.length cc, .int .u64 s.laid, .slice ga gs.length gc, .slice pa ps.length pc, .int .u64 mv]] W (AnsB W (.int .i64 0)))) (IX : Hid (∀ W, Below w.heap.size w W → Calls Tryz.prog 31 #[.agg #[.int .u8 c.tag, .int .i64 c.most, .int .i64 c.seg, .int .i64 c.least, .int .i64 c.den, .int .i64 c.ll, .int .i64 c.rl, .int .i64 c.rh, .int .i64 c.lh, .int .i64 s.seg, .slice wa s.ws.length wc, .slice ka s.ks.length kc, .slice va s.vs.length vc, .slice ca s.cs.length cc, .int .u64 s.laid, .slice ga gs.length gc, .slice pa ps.length pc, .int .u64 mv], .agg #[.int .i64 n, .int .i64 g]] W (AnsB W (.int .i64 r)))) :
    Calls Tryz.prog 14 #[.agg #[.int .u8 c.tag, .int .i64 c.most, .int .i64 c.seg, .int .i64 c.least, .int .i64 c.den, .int .i64 c.ll, .int .i64 c.rl, .int .i64 c.rh, .int .i64 c.lh, .int .i64 s.seg, .slice wa s.ws.length wc, .slice ka s.ks.length kc, .slice va s.vs.length vc, .slice ca s.cs.length cc, .int .u64 s.laid, .slice ga gs.length gc, .slice pa ps.length pc, .int .u64 mv], .agg #[.int .i64 n, .int .i64 g]] w (AnsB w (.tuple #[.int .i64 0, .int .i64 140])) := by
  have g1 : decide (r < 0) = true := by simpa using hr
  go_enter Tryz.func14, Tryz.ntmps14
  go_upto_region 1 with (fail)
  generalize hw0 : ((w.alloc (.cells #[.int .u8 c.tag, .int .i64 c.most, .int .i64 c.seg, .int .i64 c.least, .int .i64 c.den, .int .i64 c.ll, .int .i64 c.rl, .int .i64 c.rh, .int .i64 c.lh, .int .i64 s.seg, .slice wa s.ws.length wc, .slice ka s.ks.length kc, .slice va s.vs.length vc, .slice ca s.cs.length cc, .int .u64 s.laid, .slice ga gs.length gc, .slice pa ps.length pc, .int .u64 mv] 33)).alloc (.cells #[.int .i64 n, .int .i64 g] 35)) = w0
  have hh := ec18 hw0 (au18 (al18 (b := w.heap.size) (by simp)))
  obtain ⟨c_t0, c_t1, c_t2, c_t3, c_t4, c_t5, c_t6, c_t7, c_t8, c_t9, c_t10, c_t11, c_t12, c_t13, c_t14, c_t15, c_t16, c_t17⟩ := hh
  have z_t := elt hw0 (auz (alz (b := w.heap.size) (by simp)))
  have hh := ec2 hw0 (al2 (b := w.heap.size + 1) (by simp))
  obtain ⟨c_h0, c_h1⟩ := hh
  have z_h := elt hw0 (alz (b := w.heap.size + 1) (by simp))
  have HB0 : Hid (Below w.heap.size w w0) := by rw [← hw0]; exact Lib.hid (((Below.refl _ _).alloc (by first | exact Nat.le_refl _ | (simp; done) | (simp; omega)) _).alloc (by first | exact Nat.le_refl _ | (simp; done) | (simp; omega)) _)
  clear hw0
  go_wp2_with (refine wpl_load 33 (.tmp 2) (w.heap.size) [.int .u8 c.tag, .int .i64 c.most, .int .i64 c.seg, .int .i64 c.least, .int .i64 c.den, .int .i64 c.ll, .int .i64 c.rl, .int .i64 c.rh, .int .i64 c.lh, .int .i64 s.seg, .slice wa s.ws.length wc, .slice ka s.ks.length kc, .slice va s.vs.length vc, .slice ca s.cs.length cc, .int .u64 s.laid, .slice ga gs.length gc, .slice pa ps.length pc, .int .u64 mv] rfl rfl rfl Tryz.underlying33 rfl (by kernel_rfl) (list18 ⟨c_t0, c_t1, c_t2, c_t3, c_t4, c_t5, c_t6, c_t7, c_t8, c_t9, c_t10, c_t11, c_t12, c_t13, c_t14, c_t15, c_t16, c_t17⟩) ?_)
  go_wp2_with fail
  refine (CK.out _ HB0.out).mono ?_
  rintro e w1 ⟨rfl, hb1⟩
  have hz_w1 := hb1.size
  try simp only [World.size_alloc, World.size_setCell] at hz_w1
  have hh := bc18 hb1 ⟨c_t0, c_t1, c_t2, c_t3, c_t4, c_t5, c_t6, c_t7, c_t8, c_t9, c_t10, c_t11, c_t12, c_t13, c_t14, c_t15, c_t16, c_t17⟩
  clear c_t0 c_t1 c_t2 c_t3 c_t4 c_t5 c_t6 c_t7 c_t8 c_t9 c_t10 c_t11 c_t12 c_t13 c_t14 c_t15 c_t16 c_t17
  obtain ⟨c_t0, c_t1, c_t2, c_t3, c_t4, c_t5, c_t6, c_t7, c_t8, c_t9, c_t10, c_t11, c_t12, c_t13, c_t14, c_t15, c_t16, c_t17⟩ := hh
  replace z_t := blt hb1 z_t
  have hh := bc2 hb1 ⟨c_h0, c_h1⟩
  clear c_h0 c_h1
  obtain ⟨c_h0, c_h1⟩ := hh
  replace z_h := blt hb1 z_h
  have hB1 : Below w.heap.size w w1 := below_via hb1 HB0.out HB0.out.size
  have HB1 := Lib.hid hB1
  clear hb1 hB1
  go_wp2_with (refine wpl_load 33 (.tmp 2) (w.heap.size) [.int .u8 c.tag, .int .i64 c.most, .int .i64 c.seg, .int .i64 c.least, .int .i64 c.den, .int .i64 c.ll, .int .i64 c.rl, .int .i64 c.rh, .int .i64 c.lh, .int .i64 s.seg, .slice wa s.ws.length wc, .slice ka s.ks.length kc, .slice va s.vs.length vc, .slice ca s.cs.length cc, .int .u64 s.laid, .slice ga gs.length gc, .slice pa ps.length pc, .int .u64 mv] rfl rfl rfl Tryz.underlying33 rfl (by kernel_rfl) (list18 ⟨c_t0, c_t1, c_t2, c_t3, c_t4, c_t5, c_t6, c_t7, c_t8, c_t9, c_t10, c_t11, c_t12, c_t13, c_t14, c_t15, c_t16, c_t17⟩) ?_)
  go_wp2_with fail
  refine (IX.out _ HB1.out).mono ?_
  rintro e w2 ⟨rfl, hb2⟩
  have hz_w2 := hb2.size
  try simp only [World.size_alloc, World.size_setCell] at hz_w2
  have hh := bc18 hb2 ⟨c_t0, c_t1, c_t2, c_t3, c_t4, c_t5, c_t6, c_t7, c_t8, c_t9, c_t10, c_t11, c_t12, c_t13, c_t14, c_t15, c_t16, c_t17⟩
  clear c_t0 c_t1 c_t2 c_t3 c_t4 c_t5 c_t6 c_t7 c_t8 c_t9 c_t10 c_t11 c_t12 c_t13 c_t14 c_t15 c_t16 c_t17
  obtain ⟨c_t0, c_t1, c_t2, c_t3, c_t4, c_t5, c_t6, c_t7, c_t8, c_t9, c_t10, c_t11, c_t12, c_t13, c_t14, c_t15, c_t16, c_t17⟩ := hh
  replace z_t := blt hb2 z_t
  have hh := bc2 hb2 ⟨c_h0, c_h1⟩
  clear c_h0 c_h1
  obtain ⟨c_h0, c_h1⟩ := hh
  replace z_h := blt hb2 z_h
  have HB2 := Lib.hid (below_via hb2 HB1.out HB1.out.size)
  go_wp2
  go_ret2
  exact ⟨rfl, HB2.out⟩
theorem Label15_yes (c : Cfg) (s : SlC) (wa ka va ca : Option Addr) (wc kc vc cc : Nat) (gs ps : List Int) (mv : Int) (ga pa : Option Addr) (gc pc : Nat) (n : Nat) (g r x : Int) (hr : 0 ≤ r) (hn : n < ps.length) (hx : ps.getD n 0 = x) (w : World) (hp : IsRow .i64 w pa ps) (CK : Hid (∀ W, Below w.heap.size w W → Calls Tryz.prog 16 #[.agg #[.int .u8 c.tag, .int .i64 c.most, .int .i64 c.seg, .int .i64 c.least, .int .i64 c.den, .int .i64 c.ll, .int .i64 c.rl, .int .i64 c.rh, .int .i64 c.lh, .int .i64 s.seg, .slice wa s.ws.length wc, .slice ka s.ks.length kc, .slice va s.vs.length vc, .slice ca s.cs.length cc, .int .u64 s.laid, .slice ga gs.length gc, .slice pa ps.length pc, .int .u64 mv]] W (AnsB W (.int .i64 0)))) (IX : Hid (∀ W, Below w.heap.size w W → Calls Tryz.prog 31 #[.agg #[.int .u8 c.tag, .int .i64 c.most, .int .i64 c.seg, .int .i64 c.least, .int .i64 c.den, .int .i64 c.ll, .int .i64 c.rl, .int .i64 c.rh, .int .i64 c.lh, .int .i64 s.seg, .slice wa s.ws.length wc, .slice ka s.ks.length kc, .slice va s.vs.length vc, .slice ca s.cs.length cc, .int .u64 s.laid, .slice ga gs.length gc, .slice pa ps.length pc, .int .u64 mv], .agg #[.int .i64 n, .int .i64 g]] W (AnsB W (.int .i64 r)))) :
    Calls Tryz.prog 14 #[.agg #[.int .u8 c.tag, .int .i64 c.most, .int .i64 c.seg, .int .i64 c.least, .int .i64 c.den, .int .i64 c.ll, .int .i64 c.rl, .int .i64 c.rh, .int .i64 c.lh, .int .i64 s.seg, .slice wa s.ws.length wc, .slice ka s.ks.length kc, .slice va s.vs.length vc, .slice ca s.cs.length cc, .int .u64 s.laid, .slice ga gs.length gc, .slice pa ps.length pc, .int .u64 mv], .agg #[.int .i64 n, .int .i64 g]] w (AnsB w (.tuple #[.int .i64 x, .int .i64 0])) := by
  have g1 : decide (r < 0) = false := by simpa using hr
  have HP := Lib.hid hp
  have HX := Lib.hid hx
  clear hp hx
  go_enter Tryz.func14, Tryz.ntmps14
  go_upto_region 1 with (fail)
  generalize hw0 : ((w.alloc (.cells #[.int .u8 c.tag, .int .i64 c.most, .int .i64 c.seg, .int .i64 c.least, .int .i64 c.den, .int .i64 c.ll, .int .i64 c.rl, .int .i64 c.rh, .int .i64 c.lh, .int .i64 s.seg, .slice wa s.ws.length wc, .slice ka s.ks.length kc, .slice va s.vs.length vc, .slice ca s.cs.length cc, .int .u64 s.laid, .slice ga gs.length gc, .slice pa ps.length pc, .int .u64 mv] 33)).alloc (.cells #[.int .i64 n, .int .i64 g] 35)) = w0
  have hh := ec18 hw0 (au18 (al18 (b := w.heap.size) (by simp)))
  obtain ⟨c_t0, c_t1, c_t2, c_t3, c_t4, c_t5, c_t6, c_t7, c_t8, c_t9, c_t10, c_t11, c_t12, c_t13, c_t14, c_t15, c_t16, c_t17⟩ := hh
  have z_t := elt hw0 (auz (alz (b := w.heap.size) (by simp)))
  have hh := ec2 hw0 (al2 (b := w.heap.size + 1) (by simp))
  obtain ⟨c_h0, c_h1⟩ := hh
  have z_h := elt hw0 (alz (b := w.heap.size + 1) (by simp))
  have HB0 : Hid (Below w.heap.size w w0) := by rw [← hw0]; exact Lib.hid (((Below.refl _ _).alloc (by first | exact Nat.le_refl _ | (simp; done) | (simp; omega)) _).alloc (by first | exact Nat.le_refl _ | (simp; done) | (simp; omega)) _)
  clear hw0
  go_wp2_with (refine wpl_load 33 (.tmp 2) (w.heap.size) [.int .u8 c.tag, .int .i64 c.most, .int .i64 c.seg, .int .i64 c.least, .int .i64 c.den, .int .i64 c.ll, .int .i64 c.rl, .int .i64 c.rh, .int .i64 c.lh, .int .i64 s.seg, .slice wa s.ws.length wc, .slice ka s.ks.length kc, .slice va s.vs.length vc, .slice ca s.cs.length cc, .int .u64 s.laid, .slice ga gs.length gc, .slice pa ps.length pc, .int .u64 mv] rfl rfl rfl Tryz.underlying33 rfl (by kernel_rfl) (list18 ⟨c_t0, c_t1, c_t2, c_t3, c_t4, c_t5, c_t6, c_t7, c_t8, c_t9, c_t10, c_t11, c_t12, c_t13, c_t14, c_t15, c_t16, c_t17⟩) ?_)
  go_wp2_with fail
  refine (CK.out _ HB0.out).mono ?_
  rintro e w1 ⟨rfl, hb1⟩
  have hz_w1 := hb1.size
  try simp only [World.size_alloc, World.size_setCell] at hz_w1
  have hh := bc18 hb1 ⟨c_t0, c_t1, c_t2, c_t3, c_t4, c_t5, c_t6, c_t7, c_t8, c_t9, c_t10, c_t11, c_t12, c_t13, c_t14, c_t15, c_t16, c_t17⟩
  clear c_t0 c_t1 c_t2 c_t3 c_t4 c_t5 c_t6 c_t7 c_t8 c_t9 c_t10 c_t11 c_t12 c_t13 c_t14 c_t15 c_t16 c_t17
  obtain ⟨c_t0, c_t1, c_t2, c_t3, c_t4, c_t5, c_t6, c_t7, c_t8, c_t9, c_t10, c_t11, c_t12, c_t13, c_t14, c_t15, c_t16, c_t17⟩ := hh
  replace z_t := blt hb1 z_t
  have hh := bc2 hb1 ⟨c_h0, c_h1⟩
  clear c_h0 c_h1
  obtain ⟨c_h0, c_h1⟩ := hh
  replace z_h := blt hb1 z_h
  have hB1 : Below w.heap.size w w1 := below_via hb1 HB0.out HB0.out.size
  have HB1 := Lib.hid hB1
  clear hb1 hB1
  go_wp2_with (refine wpl_load 33 (.tmp 2) (w.heap.size) [.int .u8 c.tag, .int .i64 c.most, .int .i64 c.seg, .int .i64 c.least, .int .i64 c.den, .int .i64 c.ll, .int .i64 c.rl, .int .i64 c.rh, .int .i64 c.lh, .int .i64 s.seg, .slice wa s.ws.length wc, .slice ka s.ks.length kc, .slice va s.vs.length vc, .slice ca s.cs.length cc, .int .u64 s.laid, .slice ga gs.length gc, .slice pa ps.length pc, .int .u64 mv] rfl rfl rfl Tryz.underlying33 rfl (by kernel_rfl) (list18 ⟨c_t0, c_t1, c_t2, c_t3, c_t4, c_t5, c_t6, c_t7, c_t8, c_t9, c_t10, c_t11, c_t12, c_t13, c_t14, c_t15, c_t16, c_t17⟩) ?_)
  go_wp2_with fail
  refine (IX.out _ HB1.out).mono ?_
  rintro e w2 ⟨rfl, hb2⟩
  have hz_w2 := hb2.size
  try simp only [World.size_alloc, World.size_setCell] at hz_w2
  have hh := bc18 hb2 ⟨c_t0, c_t1, c_t2, c_t3, c_t4, c_t5, c_t6, c_t7, c_t8, c_t9, c_t10, c_t11, c_t12, c_t13, c_t14, c_t15, c_t16, c_t17⟩
  clear c_t0 c_t1 c_t2 c_t3 c_t4 c_t5 c_t6 c_t7 c_t8 c_t9 c_t10 c_t11 c_t12 c_t13 c_t14 c_t15 c_t16 c_t17
  obtain ⟨c_t0, c_t1, c_t2, c_t3, c_t4, c_t5, c_t6, c_t7, c_t8, c_t9, c_t10, c_t11, c_t12, c_t13, c_t14, c_t15, c_t16, c_t17⟩ := hh
  replace z_t := blt hb2 z_t
  have hh := bc2 hb2 ⟨c_h0, c_h1⟩
  clear c_h0 c_h1
  obtain ⟨c_h0, c_h1⟩ := hh
  replace z_h := blt hb2 z_h
  have HB2 := Lib.hid (below_via hb2 HB1.out HB1.out.size)
  obtain ⟨pb, po, z, rfl, hz, hcz, -⟩ := (HP.out.below HB2.out).get (i := n) hn
  have e : x = z := by rw [← HX.out, hz.out]
  subst e
  clear hz hb2 HX
  go_wp2
  go_ret2
  exact ⟨rfl, HB2.out⟩
theorem omCompare_e1 (c : Cfg) (s : SlC) (wa ka va ca : Option Addr) (wc kc vc cc : Nat) (gs ps : List Int) (mv : Int) (ga pa : Option Addr) (gc pc : Nat) (n g n2 g2 x e : Int) (he : e ≠ 0) (w : World) (LA : Hid (∀ W, Below w.heap.size w W → Calls Tryz.prog 13 #[.agg #[.int .u8 c.tag, .int .i64 c.most, .int .i64 c.seg, .int .i64 c.least, .int .i64 c.den, .int .i64 c.ll, .int .i64 c.rl, .int .i64 c.rh, .int .i64 c.lh, .int .i64 s.seg, .slice wa s.ws.length wc, .slice ka s.ks.length kc, .slice va s.vs.length vc, .slice ca s.cs.length cc, .int .u64 s.laid, .slice ga gs.length gc, .slice pa ps.length pc, .int .u64 mv], .agg #[.int .i64 n, .int .i64 g]] W (AnsB W (.tuple #[.int .i64 x, .int .i64 e])))) :
    Calls Tryz.prog 11 #[.agg #[.int .u8 c.tag, .int .i64 c.most, .int .i64 c.seg, .int .i64 c.least, .int .i64 c.den, .int .i64 c.ll, .int .i64 c.rl, .int .i64 c.rh, .int .i64 c.lh, .int .i64 s.seg, .slice wa s.ws.length wc, .slice ka s.ks.length kc, .slice va s.vs.length vc, .slice ca s.cs.length cc, .int .u64 s.laid, .slice ga gs.length gc, .slice pa ps.length pc, .int .u64 mv], .agg #[.int .i64 n, .int .i64 g], .agg #[.int .i64 n2, .int .i64 g2]] w (AnsB w (.tuple #[.int .i64 0, .int .i64 e])) := by
  have g1 : (e != 0) = true := by simpa using he
  go_enter Tryz.func11, Tryz.ntmps11
  go_upto_region 1 with (fail)
  generalize hw0 : (((w.alloc (.cells #[.int .u8 c.tag, .int .i64 c.most, .int .i64 c.seg, .int .i64 c.least, .int .i64 c.den, .int .i64 c.ll, .int .i64 c.rl, .int .i64 c.rh, .int .i64 c.lh, .int .i64 s.seg, .slice wa s.ws.length wc, .slice ka s.ks.length kc, .slice va s.vs.length vc, .slice ca s.cs.length cc, .int .u64 s.laid, .slice ga gs.length gc, .slice pa ps.length pc, .int .u64 mv] 33)).alloc (.cells #[.int .i64 n, .int .i64 g] 35)).alloc (.cells #[.int .i64 n2, .int .i64 g2] 35)) = w0
  have hh := ec18 hw0 (au18 (au18 (al18 (b := w.heap.size) (by simp))))
  obtain ⟨c_t0, c_t1, c_t2, c_t3, c_t4, c_t5, c_t6, c_t7, c_t8, c_t9, c_t10, c_t11, c_t12, c_t13, c_t14, c_t15, c_t16, c_t17⟩ := hh
  have z_t := elt hw0 (auz (auz (alz (b := w.heap.size) (by simp))))
  have hh := ec2 hw0 (au2 (al2 (b := w.heap.size + 1) (by simp)))
  obtain ⟨c_h0, c_h1⟩ := hh
  have z_h := elt hw0 (auz (alz (b := w.heap.size + 1) (by simp)))
  have hh := ec2 hw0 (al2 (b := w.heap.size + 2) (by simp))
  obtain ⟨c_k0, c_k1⟩ := hh
  have z_k := elt hw0 (alz (b := w.heap.size + 2) (by simp))
  have HB0 : Hid (Below w.heap.size w w0) := by rw [← hw0]; exact Lib.hid ((((Below.refl _ _).alloc (by first | exact Nat.le_refl _ | (simp; done) | (simp; omega)) _).alloc (by first | exact Nat.le_refl _ | (simp; done) | (simp; omega)) _).alloc (by first | exact Nat.le_refl _ | (simp; done) | (simp; omega)) _)
  clear hw0
  go_wp2_with (refine wpl_load 33 (.tmp 3) (w.heap.size) [.int .u8 c.tag, .int .i64 c.most, .int .i64 c.seg, .int .i64 c.least, .int .i64 c.den, .int .i64 c.ll, .int .i64 c.rl, .int .i64 c.rh, .int .i64 c.lh, .int .i64 s.seg, .slice wa s.ws.length wc, .slice ka s.ks.length kc, .slice va s.vs.length vc, .slice ca s.cs.length cc, .int .u64 s.laid, .slice ga gs.length gc, .slice pa ps.length pc, .int .u64 mv] rfl rfl rfl Tryz.underlying33 rfl (by kernel_rfl) (list18 ⟨c_t0, c_t1, c_t2, c_t3, c_t4, c_t5, c_t6, c_t7, c_t8, c_t9, c_t10, c_t11, c_t12, c_t13, c_t14, c_t15, c_t16, c_t17⟩) ?_)
  go_wp2_with fail
  refine (LA.out _ HB0.out).mono ?_
  rintro e w1 ⟨rfl, hb1⟩
  have hz_w1 := hb1.size
  try simp only [World.size_alloc, World.size_setCell] at hz_w1
  have hh := bc18 hb1 ⟨c_t0, c_t1, c_t2, c_t3, c_t4, c_t5, c_t6, c_t7, c_t8, c_t9, c_t10, c_t11, c_t12, c_t13, c_t14, c_t15, c_t16, c_t17⟩
  clear c_t0 c_t1 c_t2 c_t3 c_t4 c_t5 c_t6 c_t7 c_t8 c_t9 c_t10 c_t11 c_t12 c_t13 c_t14 c_t15 c_t16 c_t17
  obtain ⟨c_t0, c_t1, c_t2, c_t3, c_t4, c_t5, c_t6, c_t7, c_t8, c_t9, c_t10, c_t11, c_t12, c_t13, c_t14, c_t15, c_t16, c_t17⟩ := hh
  replace z_t := blt hb1 z_t
  have hh := bc2 hb1 ⟨c_h0, c_h1⟩
  clear c_h0 c_h1
  obtain ⟨c_h0, c_h1⟩ := hh
  replace z_h := blt hb1 z_h
  have hh := bc2 hb1 ⟨c_k0, c_k1⟩
  clear c_k0 c_k1
  obtain ⟨c_k0, c_k1⟩ := hh
  replace z_k := blt hb1 z_k
  have hB1 : Below w.heap.size w w1 := below_via hb1 HB0.out HB0.out.size
  go_wp2
  go_ret2
  exact ⟨rfl, hB1⟩
theorem omCompare_e2 (c : Cfg) (s : SlC) (wa ka va ca : Option Addr) (wc kc vc cc : Nat) (gs ps : List Int) (mv : Int) (ga pa : Option Addr) (gc pc : Nat) (n g n2 g2 x y e : Int) (he : e ≠ 0) (w : World) (LA : Hid (∀ W, Below w.heap.size w W → Calls Tryz.prog 13 #[.agg #[.int .u8 c.tag, .int .i64 c.most, .int .i64 c.seg, .int .i64 c.least, .int .i64 c.den, .int .i64 c.ll, .int .i64 c.rl, .int .i64 c.rh, .int .i64 c.lh, .int .i64 s.seg, .slice wa s.ws.length wc, .slice ka s.ks.length kc, .slice va s.vs.length vc, .slice ca s.cs.length cc, .int .u64 s.laid, .slice ga gs.length gc, .slice pa ps.length pc, .int .u64 mv], .agg #[.int .i64 n, .int .i64 g]] W (AnsB W (.tuple #[.int .i64 x, .int .i64 0])))) (LB : Hid (∀ W, Below w.heap.size w W → Calls Tryz.prog 13 #[.agg #[.int .u8 c.tag, .int .i64 c.most, .int .i64 c.seg, .int .i64 c.least, .int .i64 c.den, .int .i64 c.ll, .int .i64 c.rl, .int .i64 c.rh, .int .i64 c.lh, .int .i64 s.seg, .slice wa s.ws.length wc, .slice ka s.ks.length kc, .slice va s.vs.length vc, .slice ca s.cs.length cc, .int .u64 s.laid, .slice ga gs.length gc, .slice pa ps.length pc, .int .u64 mv], .agg #[.int .i64 n2, .int .i64 g2]] W (AnsB W (.tuple #[.int .i64 y, .int .i64 e])))) :
    Calls Tryz.prog 11 #[.agg #[.int .u8 c.tag, .int .i64 c.most, .int .i64 c.seg, .int .i64 c.least, .int .i64 c.den, .int .i64 c.ll, .int .i64 c.rl, .int .i64 c.rh, .int .i64 c.lh, .int .i64 s.seg, .slice wa s.ws.length wc, .slice ka s.ks.length kc, .slice va s.vs.length vc, .slice ca s.cs.length cc, .int .u64 s.laid, .slice ga gs.length gc, .slice pa ps.length pc, .int .u64 mv], .agg #[.int .i64 n, .int .i64 g], .agg #[.int .i64 n2, .int .i64 g2]] w (AnsB w (.tuple #[.int .i64 0, .int .i64 e])) := by
  have g1 : (e != 0) = true := by simpa using he
  go_enter Tryz.func11, Tryz.ntmps11
  go_upto_region 1 with (fail)
  generalize hw0 : (((w.alloc (.cells #[.int .u8 c.tag, .int .i64 c.most, .int .i64 c.seg, .int .i64 c.least, .int .i64 c.den, .int .i64 c.ll, .int .i64 c.rl, .int .i64 c.rh, .int .i64 c.lh, .int .i64 s.seg, .slice wa s.ws.length wc, .slice ka s.ks.length kc, .slice va s.vs.length vc, .slice ca s.cs.length cc, .int .u64 s.laid, .slice ga gs.length gc, .slice pa ps.length pc, .int .u64 mv] 33)).alloc (.cells #[.int .i64 n, .int .i64 g] 35)).alloc (.cells #[.int .i64 n2, .int .i64 g2] 35)) = w0
  have hh := ec18 hw0 (au18 (au18 (al18 (b := w.heap.size) (by simp))))
  obtain ⟨c_t0, c_t1, c_t2, c_t3, c_t4, c_t5, c_t6, c_t7, c_t8, c_t9, c_t10, c_t11, c_t12, c_t13, c_t14, c_t15, c_t16, c_t17⟩ := hh
  have z_t := elt hw0 (auz (auz (alz (b := w.heap.size) (by simp))))
  have hh := ec2 hw0 (au2 (al2 (b := w.heap.size + 1) (by simp)))
  obtain ⟨c_h0, c_h1⟩ := hh
  have z_h := elt hw0 (auz (alz (b := w.heap.size + 1) (by simp)))
  have hh := ec2 hw0 (al2 (b := w.heap.size + 2) (by simp))
  obtain ⟨c_k0, c_k1⟩ := hh
  have z_k := elt hw0 (alz (b := w.heap.size + 2) (by simp))
  have HB0 : Hid (Below w.heap.size w w0) := by rw [← hw0]; exact Lib.hid ((((Below.refl _ _).alloc (by first | exact Nat.le_refl _ | (simp; done) | (simp; omega)) _).alloc (by first | exact Nat.le_refl _ | (simp; done) | (simp; omega)) _).alloc (by first | exact Nat.le_refl _ | (simp; done) | (simp; omega)) _)
  clear hw0
  go_wp2_with (refine wpl_load 33 (.tmp 3) (w.heap.size) [.int .u8 c.tag, .int .i64 c.most, .int .i64 c.seg, .int .i64 c.least, .int .i64 c.den, .int .i64 c.ll, .int .i64 c.rl, .int .i64 c.rh, .int .i64 c.lh, .int .i64 s.seg, .slice wa s.ws.length wc, .slice ka s.ks.length kc, .slice va s.vs.length vc, .slice ca s.cs.length cc, .int .u64 s.laid, .slice ga gs.length gc, .slice pa ps.length pc, .int .u64 mv] rfl rfl rfl Tryz.underlying33 rfl (by kernel_rfl) (list18 ⟨c_t0, c_t1, c_t2, c_t3, c_t4, c_t5, c_t6, c_t7, c_t8, c_t9, c_t10, c_t11, c_t12, c_t13, c_t14, c_t15, c_t16, c_t17⟩) ?_)
  go_wp2_with fail
  refine (LA.out _ HB0.out).mono ?_
  rintro e w1 ⟨rfl, hb1⟩
  have hz_w1 := hb1.size
  try simp only [World.size_alloc, World.size_setCell] at hz_w1
  have hh := bc18 hb1 ⟨c_t0, c_t1, c_t2, c_t3, c_t4, c_t5, c_t6, c_t7, c_t8, c_t9, c_t10, c_t11, c_t12, c_t13, c_t14, c_t15, c_t16, c_t17⟩
  clear c_t0 c_t1 c_t2 c_t3 c_t4 c_t5 c_t6 c_t7 c_t8 c_t9 c_t10 c_t11 c_t12 c_t13 c_t14 c_t15 c_t16 c_t17
  obtain ⟨c_t0, c_t1, c_t2, c_t3, c_t4, c_t5, c_t6, c_t7, c_t8, c_t9, c_t10, c_t11, c_t12, c_t13, c_t14, c_t15, c_t16, c_t17⟩ := hh
  replace z_t := blt hb1 z_t
  have hh := bc2 hb1 ⟨c_h0, c_h1⟩
  clear c_h0 c_h1
  obtain ⟨c_h0, c_h1⟩ := hh
  replace z_h := blt hb1 z_h
  have hh := bc2 hb1 ⟨c_k0, c_k1⟩
  clear c_k0 c_k1
  obtain ⟨c_k0, c_k1⟩ := hh
  replace z_k := blt hb1 z_k
  have hB1 : Below w.heap.size w w1 := below_via hb1 HB0.out HB0.out.size
  have HB1 := Lib.hid hB1
  clear hb1 hB1
  go_wp2_with (refine wpl_load 33 (.tmp 3) (w.heap.size) [.int .u8 c.tag, .int .i64 c.most, .int .i64 c.seg, .int .i64 c.least, .int .i64 c.den, .int .i64 c.ll, .int .i64 c.rl, .int .i64 c.rh, .int .i64 c.lh, .int .i64 s.seg, .slice wa s.ws.length wc, .slice ka s.ks.length kc, .slice va s.vs.length vc, .slice ca s.cs.length cc, .int .u64 s.laid, .slice ga gs.length gc, .slice pa ps.length pc, .int .u64 mv] rfl rfl rfl Tryz.underlying33 rfl (by kernel_rfl) (list18 ⟨c_t0, c_t1, c_t2, c_t3, c_t4, c_t5, c_t6, c_t7, c_t8, c_t9, c_t10, c_t11, c_t12, c_t13, c_t14, c_t15, c_t16, c_t17⟩) ?_)
  go_wp2_with fail
  refine (LB.out _ HB1.out).mono ?_
  rintro e w2 ⟨rfl, hb2⟩
  have hz_w2 := hb2.size
  try simp only [World.size_alloc, World.size_setCell] at hz_w2
  have hh := bc18 hb2 ⟨c_t0, c_t1, c_t2, c_t3, c_t4, c_t5, c_t6, c_t7, c_t8, c_t9, c_t10, c_t11, c_t12, c_t13, c_t14, c_t15, c_t16, c_t17⟩
  clear c_t0 c_t1 c_t2 c_t3 c_t4 c_t5 c_t6 c_t7 c_t8 c_t9 c_t10 c_t11 c_t12 c_t13 c_t14 c_t15 c_t16 c_t17
  obtain ⟨c_t0, c_t1, c_t2, c_t3, c_t4, c_t5, c_t6, c_t7, c_t8, c_t9, c_t10, c_t11, c_t12, c_t13, c_t14, c_t15, c_t16, c_t17⟩ := hh
  replace z_t := blt hb2 z_t
  have hh := bc2 hb2 ⟨c_h0, c_h1⟩
  clear c_h0 c_h1
  obtain ⟨c_h0, c_h1⟩ := hh
  replace z_h := blt hb2 z_h
  have hh := bc2 hb2 ⟨c_k0, c_k1⟩
  clear c_k0 c_k1
  obtain ⟨c_k0, c_k1⟩ := hh
  replace z_k := blt hb2 z_k
  have HB2 := Lib.hid (below_via hb2 HB1.out HB1.out.size)
  go_wp2
  go_ret2
  exact ⟨rfl, HB2.out⟩
theorem omCompare_in (c : Cfg) (s : SlC) (wa ka va ca : Option Addr) (wc kc vc cc : Nat) (gs ps : List Int) (mv : Int) (ga pa : Option Addr) (gc pc : Nat) (n g n2 g2 x y : Int) (w : World) (LA : Hid (∀ W, Below w.heap.size w W → Calls Tryz.prog 13 #[.agg #[.int .u8 c.tag, .int .i64 c.most, .int .i64 c.seg, .int .i64 c.least, .int .i64 c.den, .int .i64 c.ll, .int .i64 c.rl, .int .i64 c.rh, .int .i64 c.lh, .int .i64 s.seg, .slice wa s.ws.length wc, .slice ka s.ks.length kc, .slice va s.vs.length vc, .slice ca s.cs.length cc, .int .u64 s.laid, .slice ga gs.length gc, .slice pa ps.length pc, .int .u64 mv], .agg #[.int .i64 n, .int .i64 g]] W (AnsB W (.tuple #[.int .i64 x, .int .i64 0])))) (LB : Hid (∀ W, Below w.heap.size w W → Calls Tryz.prog 13 #[.agg #[.int .u8 c.tag, .int .i64 c.most, .int .i64 c.seg, .int .i64 c.least, .int .i64 c.den, .int .i64 c.ll, .int .i64 c.rl, .int .i64 c.rh, .int .i64 c.lh, .int .i64 s.seg, .slice wa s.ws.length wc, .slice ka s.ks.length kc, .slice va s.vs.length vc, .slice ca s.cs.length cc, .int .u64 s.laid, .slice ga gs.length gc, .slice pa ps.length pc, .int .u64 mv], .agg #[.int .i64 n2, .int .i64 g2]] W (AnsB W (.tuple #[.int .i64 y, .int .i64 0])))) :
    Calls Tryz.prog 11 #[.agg #[.int .u8 c.tag, .int .i64 c.most, .int .i64 c.seg, .int .i64 c.least, .int .i64 c.den, .int .i64 c.ll, .int .i64 c.rl, .int .i64 c.rh, .int .i64 c.lh, .int .i64 s.seg, .slice wa s.ws.length wc, .slice ka s.ks.length kc, .slice va s.vs.length vc, .slice ca s.cs.length cc, .int .u64 s.laid, .slice ga gs.length gc, .slice pa ps.length pc, .int .u64 mv], .agg #[.int .i64 n, .int .i64 g], .agg #[.int .i64 n2, .int .i64 g2]] w (AnsB w (.tuple #[.int .i64 (cmpI x y), .int .i64 0])) := by
  rcases Int.lt_trichotomy x y with q | q | q
  · have d1 : decide (x < y) = true := by simpa using q
    have hc : cmpI x y = -1 := by rw [cmpI, if_pos q]
    rw [hc]
    clear hc
    go_enter Tryz.func11, Tryz.ntmps11
    go_upto_region 1 with (fail)
    generalize hw0 : (((w.alloc (.cells #[.int .u8 c.tag, .int .i64 c.most, .int .i64 c.seg, .int .i64 c.least, .int .i64 c.den, .int .i64 c.ll, .int .i64 c.rl, .int .i64 c.rh, .int .i64 c.lh, .int .i64 s.seg, .slice wa s.ws.length wc, .slice ka s.ks.length kc, .slice va s.vs.length vc, .slice ca s.cs.length cc, .int .u64 s.laid, .slice ga gs.length gc, .slice pa ps.length pc, .int .u64 mv] 33)).alloc (.cells #[.int .i64 n, .int .i64 g] 35)).alloc (.cells #[.int .i64 n2, .int .i64 g2] 35)) = w0
    have hh := ec18 hw0 (au18 (au18 (al18 (b := w.heap.size) (by simp))))
    obtain ⟨c_t0, c_t1, c_t2, c_t3, c_t4, c_t5, c_t6, c_t7, c_t8, c_t9, c_t10, c_t11, c_t12, c_t13, c_t14, c_t15, c_t16, c_t17⟩ := hh
    have z_t := elt hw0 (auz (auz (alz (b := w.heap.size) (by simp))))
    have hh := ec2 hw0 (au2 (al2 (b := w.heap.size + 1) (by simp)))
    obtain ⟨c_h0, c_h1⟩ := hh
    have z_h := elt hw0 (auz (alz (b := w.heap.size + 1) (by simp)))
    have hh := ec2 hw0 (al2 (b := w.heap.size + 2) (by simp))
    obtain ⟨c_k0, c_k1⟩ := hh
    have z_k := elt hw0 (alz (b := w.heap.size + 2) (by simp))
    have HB0 : Hid (Below w.heap.size w w0) := by rw [← hw0]; exact Lib.hid ((((Below.refl _ _).alloc (by first | exact Nat.le_refl _ | (simp; done) | (simp; omega)) _).alloc (by first | exact Nat.le_refl _ | (simp; done) | (simp; omega)) _).alloc (by first | exact Nat.le_refl _ | (simp; done) | (simp; omega)) _)
    clear hw0
    go_wp2_with (refine wpl_load 33 (.tmp 3) (w.heap.size) [.int .u8 c.tag, .int .i64 c.most, .int .i64 c.seg, .int .i64 c.least, .int .i64 c.den, .int .i64 c.ll, .int .i64 c.rl, .int .i64 c.rh, .int .i64 c.lh, .int .i64 s.seg, .slice wa s.ws.length wc, .slice ka s.ks.length kc, .slice va s.vs.length vc, .slice ca s.cs.length cc, .int .u64 s.laid, .slice ga gs.length gc, .slice pa ps.length pc, .int .u64 mv] rfl rfl rfl Tryz.underlying33 rfl (by kernel_rfl) (list18 ⟨c_t0, c_t1, c_t2, c_t3, c_t4, c_t5, c_t6, c_t7, c_t8, c_t9, c_t10, c_t11, c_t12, c_t13, c_t14, c_t15, c_t16, c_t17⟩) ?_)
    go_wp2_with fail
    refine (LA.out _ HB0.out).mono ?_
    rintro e w1 ⟨rfl, hb1⟩
    have hz_w1 := hb1.size
    try simp only [World.size_alloc, World.size_setCell] at hz_w1
    have hh := bc18 hb1 ⟨c_t0, c_t1, c_t2, c_t3, c_t4, c_t5, c_t6, c_t7, c_t8, c_t9, c_t10, c_t11, c_t12, c_t13, c_t14, c_t15, c_t16, c_t17⟩
    clear c_t0 c_t1 c_t2 c_t3 c_t4 c_t5 c_t6 c_t7 c_t8 c_t9 c_t10 c_t11 c_t12 c_t13 c_t14 c_t15 c_t16 c_t17
    obtain ⟨c_t0, c_t1, c_t2, c_t3, c_t4, c_t5, c_t6, c_t7, c_t8, c_t9, c_t10, c_t11, c_t12, c_t13, c_t14, c_t15, c_t16, c_t17⟩ := hh
    replace z_t := blt hb1 z_t
    have hh := bc2 hb1 ⟨c_h0, c_h1⟩
    clear c_h0 c_h1
    obtain ⟨c_h0, c_h1⟩ := hh
    replace z_h := blt hb1 z_h
    have hh := bc2 hb1 ⟨c_k0, c_k1⟩
    clear c_k0 c_k1
    obtain ⟨c_k0, c_k1⟩ := hh
    replace z_k := blt hb1 z_k
    have hB1 : Below w.heap.size w w1 := below_via hb1 HB0.out HB0.out.size
    have HB1 := Lib.hid hB1
    clear hb1 hB1
    go_wp2_with (refine wpl_load 33 (.tmp 3) (w.heap.size) [.int .u8 c.tag, .int .i64 c.most, .int .i64 c.seg, .int .i64 c.least, .int .i64 c.den, .int .i64 c.ll, .int .i64 c.rl, .int .i64 c.rh, .int .i64 c.lh, .int .i64 s.seg, .slice wa s.ws.length wc, .slice ka s.ks.length kc, .slice va s.vs.length vc, .slice ca s.cs.length cc, .int .u64 s.laid, .slice ga gs.length gc, .slice pa ps.length pc, .int .u64 mv] rfl rfl rfl Tryz.underlying33 rfl (by kernel_rfl) (list18 ⟨c_t0, c_t1, c_t2, c_t3, c_t4, c_t5, c_t6, c_t7, c_t8, c_t9, c_t10, c_t11, c_t12, c_t13, c_t14, c_t15, c_t16, c_t17⟩) ?_)
    go_wp2_with fail
    refine (LB.out _ HB1.out).mono ?_
    rintro e w2 ⟨rfl, hb2⟩
    have hz_w2 := hb2.size
    try simp only [World.size_alloc, World.size_setCell] at hz_w2
    have hh := bc18 hb2 ⟨c_t0, c_t1, c_t2, c_t3, c_t4, c_t5, c_t6, c_t7, c_t8, c_t9, c_t10, c_t11, c_t12, c_t13, c_t14, c_t15, c_t16, c_t17⟩
    clear c_t0 c_t1 c_t2 c_t3 c_t4 c_t5 c_t6 c_t7 c_t8 c_t9 c_t10 c_t11 c_t12 c_t13 c_t14 c_t15 c_t16 c_t17
    obtain ⟨c_t0, c_t1, c_t2, c_t3, c_t4, c_t5, c_t6, c_t7, c_t8, c_t9, c_t10, c_t11, c_t12, c_t13, c_t14, c_t15, c_t16, c_t17⟩ := hh
    replace z_t := blt hb2 z_t
    have hh := bc2 hb2 ⟨c_h0, c_h1⟩
    clear c_h0 c_h1
    obtain ⟨c_h0, c_h1⟩ := hh
    replace z_h := blt hb2 z_h
    have hh := bc2 hb2 ⟨c_k0, c_k1⟩
    clear c_k0 c_k1
    obtain ⟨c_k0, c_k1⟩ := hh
    replace z_k := blt hb2 z_k
    have HB2 := Lib.hid (below_via hb2 HB1.out HB1.out.size)
    go_wp2
    go_ret2
    exact ⟨rfl, HB2.out⟩
  · subst q
    have d1 : decide (x < x) = false := by simp
    have hc : cmpI x x = 0 := by simp [cmpI]
    rw [hc]
    clear hc
    go_enter Tryz.func11, Tryz.ntmps11
    go_upto_region 1 with (fail)
    generalize hw0 : (((w.alloc (.cells #[.int .u8 c.tag, .int .i64 c.most, .int .i64 c.seg, .int .i64 c.least, .int .i64 c.den, .int .i64 c.ll, .int .i64 c.rl, .int .i64 c.rh, .int .i64 c.lh, .int .i64 s.seg, .slice wa s.ws.length wc, .slice ka s.ks.length kc, .slice va s.vs.length vc, .slice ca s.cs.length cc, .int .u64 s.laid, .slice ga gs.length gc, .slice pa ps.length pc, .int .u64 mv] 33)).alloc (.cells #[.int .i64 n, .int .i64 g] 35)).alloc (.cells #[.int .i64 n2, .int .i64 g2] 35)) = w0
    have hh := ec18 hw0 (au18 (au18 (al18 (b := w.heap.size) (by simp))))
    obtain ⟨c_t0, c_t1, c_t2, c_t3, c_t4, c_t5, c_t6, c_t7, c_t8, c_t9, c_t10, c_t11, c_t12, c_t13, c_t14, c_t15, c_t16, c_t17⟩ := hh
    have z_t := elt hw0 (auz (auz (alz (b := w.heap.size) (by simp))))
    have hh := ec2 hw0 (au2 (al2 (b := w.heap.size + 1) (by simp)))
    obtain ⟨c_h0, c_h1⟩ := hh
    have z_h := elt hw0 (auz (alz (b := w.heap.size + 1) (by simp)))
    have hh := ec2 hw0 (al2 (b := w.heap.size + 2) (by simp))
    obtain ⟨c_k0, c_k1⟩ := hh
    have z_k := elt hw0 (alz (b := w.heap.size + 2) (by simp))
    have HB0 : Hid (Below w.heap.size w w0) := by rw [← hw0]; exact Lib.hid ((((Below.refl _ _).alloc (by first | exact Nat.le_refl _ | (simp; done) | (simp; omega)) _).alloc (by first | exact Nat.le_refl _ | (simp; done) | (simp; omega)) _).alloc (by first | exact Nat.le_refl _ | (simp; done) | (simp; omega)) _)
    clear hw0
    go_wp2_with (refine wpl_load 33 (.tmp 3) (w.heap.size) [.int .u8 c.tag, .int .i64 c.most, .int .i64 c.seg, .int .i64 c.least, .int .i64 c.den, .int .i64 c.ll, .int .i64 c.rl, .int .i64 c.rh, .int .i64 c.lh, .int .i64 s.seg, .slice wa s.ws.length wc, .slice ka s.ks.length kc, .slice va s.vs.length vc, .slice ca s.cs.length cc, .int .u64 s.laid, .slice ga gs.length gc, .slice pa ps.length pc, .int .u64 mv] rfl rfl rfl Tryz.underlying33 rfl (by kernel_rfl) (list18 ⟨c_t0, c_t1, c_t2, c_t3, c_t4, c_t5, c_t6, c_t7, c_t8, c_t9, c_t10, c_t11, c_t12, c_t13, c_t14, c_t15, c_t16, c_t17⟩) ?_)
    go_wp2_with fail
    refine (LA.out _ HB0.out).mono ?_
    rintro e w1 ⟨rfl, hb1⟩
    have hz_w1 := hb1.size
    try simp only [World.size_alloc, World.size_setCell] at hz_w1
    have hh := bc18 hb1 ⟨c_t0, c_t1, c_t2, c_t3, c_t4, c_t5, c_t6, c_t7, c_t8, c_t9, c_t10, c_t11, c_t12, c_t13, c_t14, c_t15, c_t16, c_t17⟩
    clear c_t0 c_t1 c_t2 c_t3 c_t4 c_t5 c_t6 c_t7 c_t8 c_t9 c_t10 c_t11 c_t12 c_t13 c_t14 c_t15 c_t16 c_t17
    obtain ⟨c_t0, c_t1, c_t2, c_t3, c_t4, c_t5, c_t6, c_t7, c_t8, c_t9, c_t10, c_t11, c_t12, c_t13, c_t14, c_t15, c_t16, c_t17⟩ := hh
    replace z_t := blt hb1 z_t
    have hh := bc2 hb1 ⟨c_h0, c_h1⟩
    clear c_h0 c_h1
    obtain ⟨c_h0, c_h1⟩ := hh
    replace z_h := blt hb1 z_h
    have hh := bc2 hb1 ⟨c_k0, c_k1⟩
    clear c_k0 c_k1
    obtain ⟨c_k0, c_k1⟩ := hh
    replace z_k := blt hb1 z_k
    have hB1 : Below w.heap.size w w1 := below_via hb1 HB0.out HB0.out.size
    have HB1 := Lib.hid hB1
    clear hb1 hB1
    go_wp2_with (refine wpl_load 33 (.tmp 3) (w.heap.size) [.int .u8 c.tag, .int .i64 c.most, .int .i64 c.seg, .int .i64 c.least, .int .i64 c.den, .int .i64 c.ll, .int .i64 c.rl, .int .i64 c.rh, .int .i64 c.lh, .int .i64 s.seg, .slice wa s.ws.length wc, .slice ka s.ks.length kc, .slice va s.vs.length vc, .slice ca s.cs.length cc, .int .u64 s.laid, .slice ga gs.length gc, .slice pa ps.length pc, .int .u64 mv] rfl rfl rfl Tryz.underlying33 rfl (by kernel_rfl) (list18 ⟨c_t0, c_t1, c_t2, c_t3, c_t4, c_t5, c_t6, c_t7, c_t8, c_t9, c_t10, c_t11, c_t12, c_t13, c_t14, c_t15, c_t16, c_t17⟩) ?_)
    go_wp2_with fail
    refine (LB.out _ HB1.out).mono ?_
    rintro e w2 ⟨rfl, hb2⟩
    have hz_w2 := hb2.size
    try simp only [World.size_alloc, World.size_setCell] at hz_w2
    have hh := bc18 hb2 ⟨c_t0, c_t1, c_t2, c_t3, c_t4, c_t5, c_t6, c_t7, c_t8, c_t9, c_t10, c_t11, c_t12, c_t13, c_t14, c_t15, c_t16, c_t17⟩
    clear c_t0 c_t1 c_t2 c_t3 c_t4 c_t5 c_t6 c_t7 c_t8 c_t9 c_t10 c_t11 c_t12 c_t13 c_t14 c_t15 c_t16 c_t17
    obtain ⟨c_t0, c_t1, c_t2, c_t3, c_t4, c_t5, c_t6, c_t7, c_t8, c_t9, c_t10, c_t11, c_t12, c_t13, c_t14, c_t15, c_t16, c_t17⟩ := hh
    replace z_t := blt hb2 z_t
    have hh := bc2 hb2 ⟨c_h0, c_h1⟩
    clear c_h0 c_h1
    obtain ⟨c_h0, c_h1⟩ := hh
    replace z_h := blt hb2 z_h
    have hh := bc2 hb2 ⟨c_k0, c_k1⟩
    clear c_k0 c_k1
    obtain ⟨c_k0, c_k1⟩ := hh
    replace z_k := blt hb2 z_k
    have HB2 := Lib.hid (below_via hb2 HB1.out HB1.out.size)
    go_wp2
    go_ret2
    exact ⟨rfl, HB2.out⟩
  · have d1 : decide (x < y) = false := by simp; omega
    have d2 : decide (y < x) = true := by simpa using q
    have hc : cmpI x y = 1 := by rw [cmpI, if_neg (by omega), if_pos q]
    rw [hc]
    clear hc
    go_enter Tryz.func11, Tryz.ntmps11
    go_upto_region 1 with (fail)
    generalize hw0 : (((w.alloc (.cells #[.int .u8 c.tag, .int .i64 c.most, .int .i64 c.seg, .int .i64 c.least, .int .i64 c.den, .int .i64 c.ll, .int .i64 c.rl, .int .i64 c.rh, .int .i64 c.lh, .int .i64 s.seg, .slice wa s.ws.length wc, .slice ka s.ks.length kc, .slice va s.vs.length vc, .slice ca s.cs.length cc, .int .u64 s.laid, .slice ga gs.length gc, .slice pa ps.length pc, .int .u64 mv] 33)).alloc (.cells #[.int .i64 n, .int .i64 g] 35)).alloc (.cells #[.int .i64 n2, .int .i64 g2] 35)) = w0
    have hh := ec18 hw0 (au18 (au18 (al18 (b := w.heap.size) (by simp))))
    obtain ⟨c_t0, c_t1, c_t2, c_t3, c_t4, c_t5, c_t6, c_t7, c_t8, c_t9, c_t10, c_t11, c_t12, c_t13, c_t14, c_t15, c_t16, c_t17⟩ := hh
    have z_t := elt hw0 (auz (auz (alz (b := w.heap.size) (by simp))))
    have hh := ec2 hw0 (au2 (al2 (b := w.heap.size + 1) (by simp)))
    obtain ⟨c_h0, c_h1⟩ := hh
    have z_h := elt hw0 (auz (alz (b := w.heap.size + 1) (by simp)))
    have hh := ec2 hw0 (al2 (b := w.heap.size + 2) (by simp))
    obtain ⟨c_k0, c_k1⟩ := hh
    have z_k := elt hw0 (alz (b := w.heap.size + 2) (by simp))
    have HB0 : Hid (Below w.heap.size w w0) := by rw [← hw0]; exact Lib.hid ((((Below.refl _ _).alloc (by first | exact Nat.le_refl _ | (simp; done) | (simp; omega)) _).alloc (by first | exact Nat.le_refl _ | (simp; done) | (simp; omega)) _).alloc (by first | exact Nat.le_refl _ | (simp; done) | (simp; omega)) _)
    clear hw0
    go_wp2_with (refine wpl_load 33 (.tmp 3) (w.heap.size) [.int .u8 c.tag, .int .i64 c.most, .int .i64 c.seg, .int .i64 c.least, .int .i64 c.den, .int .i64 c.ll, .int .i64 c.rl, .int .i64 c.rh, .int .i64 c.lh, .int .i64 s.seg, .slice wa s.ws.length wc, .slice ka s.ks.length kc, .slice va s.vs.length vc, .slice ca s.cs.length cc, .int .u64 s.laid, .slice ga gs.length gc, .slice pa ps.length pc, .int .u64 mv] rfl rfl rfl Tryz.underlying33 rfl (by kernel_rfl) (list18 ⟨c_t0, c_t1, c_t2, c_t3, c_t4, c_t5, c_t6, c_t7, c_t8, c_t9, c_t10, c_t11, c_t12, c_t13, c_t14, c_t15, c_t16, c_t17⟩) ?_)
    go_wp2_with fail
    refine (LA.out _ HB0.out).mono ?_
    rintro e w1 ⟨rfl, hb1⟩
    have hz_w1 := hb1.size
    try simp only [World.size_alloc, World.size_setCell] at hz_w1
    have hh := bc18 hb1 ⟨c_t0, c_t1, c_t2, c_t3, c_t4, c_t5, c_t6, c_t7, c_t8, c_t9, c_t10, c_t11, c_t12, c_t13, c_t14, c_t15, c_t16, c_t17⟩
    clear c_t0 c_t1 c_t2 c_t3 c_t4 c_t5 c_t6 c_t7 c_t8 c_t9 c_t10 c_t11 c_t12 c_t13 c_t14 c_t15 c_t16 c_t17
    obtain ⟨c_t0, c_t1, c_t2, c_t3, c_t4, c_t5, c_t6, c_t7, c_t8, c_t9, c_t10, c_t11, c_t12, c_t13, c_t14, c_t15, c_t16, c_t17⟩ := hh
    replace z_t := blt hb1 z_t
    have hh := bc2 hb1 ⟨c_h0, c_h1⟩
    clear c_h0 c_h1
    obtain ⟨c_h0, c_h1⟩ := hh
    replace z_h := blt hb1 z_h
    have hh := bc2 hb1 ⟨c_k0, c_k1⟩
    clear c_k0 c_k1
    obtain ⟨c_k0, c_k1⟩ := hh
    replace z_k := blt hb1 z_k
    have hB1 : Below w.heap.size w w1 := below_via hb1 HB0.out HB0.out.size
    have HB1 := Lib.hid hB1
    clear hb1 hB1
    go_wp2_with (refine wpl_load 33 (.tmp 3) (w.heap.size) [.int .u8 c.tag, .int .i64 c.most, .int .i64 c.seg, .int .i64 c.least, .int .i64 c.den, .int .i64 c.ll, .int .i64 c.rl, .int .i64 c.rh, .int .i64 c.lh, .int .i64 s.seg, .slice wa s.ws.length wc, .slice ka s.ks.length kc, .slice va s.vs.length vc, .slice ca s.cs.length cc, .int .u64 s.laid, .slice ga gs.length gc, .slice pa ps.length pc, .int .u64 mv] rfl rfl rfl Tryz.underlying33 rfl (by kernel_rfl) (list18 ⟨c_t0, c_t1, c_t2, c_t3, c_t4, c_t5, c_t6, c_t7, c_t8, c_t9, c_t10, c_t11, c_t12, c_t13, c_t14, c_t15, c_t16, c_t17⟩) ?_)
    go_wp2_with fail
    refine (LB.out _ HB1.out).mono ?_
    rintro e w2 ⟨rfl, hb2⟩
    have hz_w2 := hb2.size
    try simp only [World.size_alloc, World.size_setCell] at hz_w2
    have hh := bc18 hb2 ⟨c_t0, c_t1, c_t2, c_t3, c_t4, c_t5, c_t6, c_t7, c_t8, c_t9, c_t10, c_t11, c_t12, c_t13, c_t14, c_t15, c_t16, c_t17⟩
    clear c_t0 c_t1 c_t2 c_t3 c_t4 c_t5 c_t6 c_t7 c_t8 c_t9 c_t10 c_t11 c_t12 c_t13 c_t14 c_t15 c_t16 c_t17
    obtain ⟨c_t0, c_t1, c_t2, c_t3, c_t4, c_t5, c_t6, c_t7, c_t8, c_t9, c_t10, c_t11, c_t12, c_t13, c_t14, c_t15, c_t16, c_t17⟩ := hh
    replace z_t := blt hb2 z_t
    have hh := bc2 hb2 ⟨c_h0, c_h1⟩
    clear c_h0 c_h1
    obtain ⟨c_h0, c_h1⟩ := hh
    replace z_h := blt hb2 z_h
    have hh := bc2 hb2 ⟨c_k0, c_k1⟩
    clear c_k0 c_k1
    obtain ⟨c_k0, c_k1⟩ := hh
    replace z_k := blt hb2 z_k
    have HB2 := Lib.hid (below_via hb2 HB1.out HB1.out.size)
    go_wp2
    go_ret2
    exact ⟨rfl, HB2.out⟩
theorem Compare15_err (c : Cfg) (s : SlC) (wa ka va ca : Option Addr) (wc kc vc cc : Nat) (gs ps : List Int) (mv : Int) (ga pa : Option Addr) (gc pc : Nat) (n g n2 g2 e : Int) (he : e ≠ 0) (w : World) (CK : Hid (∀ W, Below w.heap.size w W → Calls Tryz.prog 16 #[.agg #[.int .u8 c.tag, .int .i64 c.most, .int .i64 c.seg, .int .i64 c.least, .int .i64 c.den, .int .i64 c.ll, .int .i64 c.rl, .int .i64 c.rh, .int .i64 c.lh, .int .i64 s.seg, .slice wa s.ws.length wc, .slice ka s.ks.length kc, .slice va s.vs.length vc, .slice ca s.cs.length cc, .int .u64 s.laid, .slice ga gs.length gc, .slice pa ps.length pc, .int .u64 mv]] W (AnsB W (.int .i64 e)))) :
    Calls Tryz.prog 12 #[.agg #[.int .u8 c.tag, .int .i64 c.most, .int .i64 c.seg, .int .i64 c.least, .int .i64 c.den, .int .i64 c.ll, .int .i64 c.rl, .int .i64 c.rh, .int .i64 c.lh, .int .i64 s.seg, .slice wa s.ws.length wc, .slice ka s.ks.length kc, .slice va s.vs.length vc, .slice ca s.cs.length cc, .int .u64 s.laid, .slice ga gs.length gc, .slice pa ps.length pc, .int .u64 mv], .agg #[.int .i64 n, .int .i64 g], .agg #[.int .i64 n2, .int .i64 g2]] w (AnsB w (.tuple #[.int .i64 0, .int .i64 e])) := by
  have g1 : (e != 0) = true := by simpa using he
  go_enter Tryz.func12, Tryz.ntmps12
  go_upto_region 1 with (fail)
  generalize hw0 : (((w.alloc (.cells #[.int .u8 c.tag, .int .i64 c.most, .int .i64 c.seg, .int .i64 c.least, .int .i64 c.den, .int .i64 c.ll, .int .i64 c.rl, .int .i64 c.rh, .int .i64 c.lh, .int .i64 s.seg, .slice wa s.ws.length wc, .slice ka s.ks.length kc, .slice va s.vs.length vc, .slice ca s.cs.length cc, .int .u64 s.laid, .slice ga gs.length gc, .slice pa ps.length pc, .int .u64 mv] 33)).alloc (.cells #[.int .i64 n, .int .i64 g] 35)).alloc (.cells #[.int .i64 n2, .int .i64 g2] 35)) = w0
  have hh := ec18 hw0 (au18 (au18 (al18 (b := w.heap.size) (by simp))))
  obtain ⟨c_t0, c_t1, c_t2, c_t3, c_t4, c_t5, c_t6, c_t7, c_t8, c_t9, c_t10, c_t11, c_t12, c_t13, c_t14, c_t15, c_t16, c_t17⟩ := hh
  have z_t := elt hw0 (auz (auz (alz (b := w.heap.size) (by simp))))
  have hh := ec2 hw0 (au2 (al2 (b := w.heap.size + 1) (by simp)))
  obtain ⟨c_h0, c_h1⟩ := hh
  have z_h := elt hw0 (auz (alz (b := w.heap.size + 1) (by simp)))
  have hh := ec2 hw0 (al2 (b := w.heap.size + 2) (by simp))
  obtain ⟨c_k0, c_k1⟩ := hh
  have z_k := elt hw0 (alz (b := w.heap.size + 2) (by simp))
  have HB0 : Hid (Below w.heap.size w w0) := by rw [← hw0]; exact Lib.hid ((((Below.refl _ _).alloc (by first | exact Nat.le_refl _ | (simp; done) | (simp; omega)) _).alloc (by first | exact Nat.le_refl _ | (simp; done) | (simp; omega)) _).alloc (by first | exact Nat.le_refl _ | (simp; done) | (simp; omega)) _)
  clear hw0
  go_wp2_with (refine wpl_load 33 (.tmp 3) (w.heap.size) [.int .u8 c.tag, .int .i64 c.most, .int .i64 c.seg, .int .i64 c.least, .int .i64 c.den, .int .i64 c.ll, .int .i64 c.rl, .int .i64 c.rh, .int .i64 c.lh, .int .i64 s.seg, .slice wa s.ws.length wc, .slice ka s.ks.length kc, .slice va s.vs.length vc, .slice ca s.cs.length cc, .int .u64 s.laid, .slice ga gs.length gc, .slice pa ps.length pc, .int .u64 mv] rfl rfl rfl Tryz.underlying33 rfl (by kernel_rfl) (list18 ⟨c_t0, c_t1, c_t2, c_t3, c_t4, c_t5, c_t6, c_t7, c_t8, c_t9, c_t10, c_t11, c_t12, c_t13, c_t14, c_t15, c_t16, c_t17⟩) ?_)
  go_wp2_with fail
  refine (CK.out _ HB0.out).mono ?_
  rintro e w1 ⟨rfl, hb1⟩
  have hz_w1 := hb1.size
  try simp only [World.size_alloc, World.size_setCell] at hz_w1
  have hh := bc18 hb1 ⟨c_t0, c_t1, c_t2, c_t3, c_t4, c_t5, c_t6, c_t7, c_t8, c_t9, c_t10, c_t11, c_t12, c_t13, c_t14, c_t15, c_t16, c_t17⟩
  clear c_t0 c_t1 c_t2 c_t3 c_t4 c_t5 c_t6 c_t7 c_t8 c_t9 c_t10 c_t11 c_t12 c_t13 c_t14 c_t15 c_t16 c_t17
  obtain ⟨c_t0, c_t1, c_t2, c_t3, c_t4, c_t5, c_t6, c_t7, c_t8, c_t9, c_t10, c_t11, c_t12, c_t13, c_t14, c_t15, c_t16, c_t17⟩ := hh
  replace z_t := blt hb1 z_t
  have hh := bc2 hb1 ⟨c_h0, c_h1⟩
  clear c_h0 c_h1
  obtain ⟨c_h0, c_h1⟩ := hh
  replace z_h := blt hb1 z_h
  have hh := bc2 hb1 ⟨c_k0, c_k1⟩
  clear c_k0 c_k1
  obtain ⟨c_k0, c_k1⟩ := hh
  replace z_k := blt hb1 z_k
  have hB1 : Below w.heap.size w w1 := below_via hb1 HB0.out HB0.out.size
  go_wp2
  go_ret2
  exact ⟨rfl, hB1⟩
theorem Compare15_no (c : Cfg) (s : SlC) (wa ka va ca : Option Addr) (wc kc vc cc : Nat) (gs ps : List Int) (mv : Int) (ga pa : Option Addr) (gc pc : Nat) (n g n2 g2 x y : Int) (hxy : x < 0 ∨ y < 0) (w : World) (CK : Hid (∀ W, Below w.heap.size w W → Calls Tryz.prog 16 #[.agg #[.int .u8 c.tag, .int .i64 c.most, .int .i64 c.seg, .int .i64 c.least, .int .i64 c.den, .int .i64 c.ll, .int .i64 c.rl, .int .i64 c.rh, .int .i64 c.lh, .int .i64 s.seg, .slice wa s.ws.length wc, .slice ka s.ks.length kc, .slice va s.vs.length vc, .slice ca s.cs.length cc, .int .u64 s.laid, .slice ga gs.length gc, .slice pa ps.length pc, .int .u64 mv]] W (AnsB W (.int .i64 0)))) (IA : Hid (∀ W, Below w.heap.size w W → Calls Tryz.prog 31 #[.agg #[.int .u8 c.tag, .int .i64 c.most, .int .i64 c.seg, .int .i64 c.least, .int .i64 c.den, .int .i64 c.ll, .int .i64 c.rl, .int .i64 c.rh, .int .i64 c.lh, .int .i64 s.seg, .slice wa s.ws.length wc, .slice ka s.ks.length kc, .slice va s.vs.length vc, .slice ca s.cs.length cc, .int .u64 s.laid, .slice ga gs.length gc, .slice pa ps.length pc, .int .u64 mv], .agg #[.int .i64 n, .int .i64 g]] W (AnsB W (.int .i64 x)))) (IB : Hid (∀ W, Below w.heap.size w W → Calls Tryz.prog 31 #[.agg #[.int .u8 c.tag, .int .i64 c.most, .int .i64 c.seg, .int .i64 c.least, .int .i64 c.den, .int .i64 c.ll, .int .i64 c.rl, .int .i64 c.rh, .int .i64 c.lh, .int .i64 s.seg, .slice wa s.ws.length wc, .slice ka s.ks.length kc, .slice va s.vs.length vc, .slice ca s.cs.length cc, .int .u64 s.laid, .slice ga gs.length gc, .slice pa ps.length pc, .int .u64 mv], .agg #[.int .i64 n2, .int .i64 g2]] W (AnsB W (.int .i64 y)))) :
    Calls Tryz.prog 12 #[.agg #[.int .u8 c.tag, .int .i64 c.most, .int .i64 c.seg, .int .i64 c.least, .int .i64 c.den, .int .i64 c.ll, .int .i64 c.rl, .int .i64 c.rh, .int .i64 c.lh, .int .i64 s.seg, .slice wa s.ws.length wc, .slice ka s.ks.length kc, .slice va s.vs.length vc, .slice ca s.cs.length cc, .int .u64 s.laid, .slice ga gs.length gc, .slice pa ps.length pc, .int .u64 mv], .agg #[.int .i64 n, .int .i64 g], .agg #[.int .i64 n2, .int .i64 g2]] w (AnsB w (.tuple #[.int .i64 0, .int .i64 140])) := by
  by_cases q : x < 0
  · have d1 : decide (x < 0) = true := by simpa using q
    clear hxy
    go_enter Tryz.func12, Tryz.ntmps12
    go_upto_region 1 with (fail)
    generalize hw0 : (((w.alloc (.cells #[.int .u8 c.tag, .int .i64 c.most, .int .i64 c.seg, .int .i64 c.least, .int .i64 c.den, .int .i64 c.ll, .int .i64 c.rl, .int .i64 c.rh, .int .i64 c.lh, .int .i64 s.seg, .slice wa s.ws.length wc, .slice ka s.ks.length kc, .slice va s.vs.length vc, .slice ca s.cs.length cc, .int .u64 s.laid, .slice ga gs.length gc, .slice pa ps.length pc, .int .u64 mv] 33)).alloc (.cells #[.int .i64 n, .int .i64 g] 35)).alloc (.cells #[.int .i64 n2, .int .i64 g2] 35)) = w0
    have hh := ec18 hw0 (au18 (au18 (al18 (b := w.heap.size) (by simp))))
    obtain ⟨c_t0, c_t1, c_t2, c_t3, c_t4, c_t5, c_t6, c_t7, c_t8, c_t9, c_t10, c_t11, c_t12, c_t13, c_t14, c_t15, c_t16, c_t17⟩ := hh
    have z_t := elt hw0 (auz (auz (alz (b := w.heap.size) (by simp))))
    have hh := ec2 hw0 (au2 (al2 (b := w.heap.size + 1) (by simp)))
    obtain ⟨c_h0, c_h1⟩ := hh
    have z_h := elt hw0 (auz (alz (b := w.heap.size + 1) (by simp)))
    have hh := ec2 hw0 (al2 (b := w.heap.size + 2) (by simp))
    obtain ⟨c_k0, c_k1⟩ := hh
    have z_k := elt hw0 (alz (b := w.heap.size + 2) (by simp))
    have HB0 : Hid (Below w.heap.size w w0) := by rw [← hw0]; exact Lib.hid ((((Below.refl _ _).alloc (by first | exact Nat.le_refl _ | (simp; done) | (simp; omega)) _).alloc (by first | exact Nat.le_refl _ | (simp; done) | (simp; omega)) _).alloc (by first | exact Nat.le_refl _ | (simp; done) | (simp; omega)) _)
    clear hw0
    go_wp2_with (refine wpl_load 33 (.tmp 3) (w.heap.size) [.int .u8 c.tag, .int .i64 c.most, .int .i64 c.seg, .int .i64 c.least, .int .i64 c.den, .int .i64 c.ll, .int .i64 c.rl, .int .i64 c.rh, .int .i64 c.lh, .int .i64 s.seg, .slice wa s.ws.length wc, .slice ka s.ks.length kc, .slice va s.vs.length vc, .slice ca s.cs.length cc, .int .u64 s.laid, .slice ga gs.length gc, .slice pa ps.length pc, .int .u64 mv] rfl rfl rfl Tryz.underlying33 rfl (by kernel_rfl) (list18 ⟨c_t0, c_t1, c_t2, c_t3, c_t4, c_t5, c_t6, c_t7, c_t8, c_t9, c_t10, c_t11, c_t12, c_t13, c_t14, c_t15, c_t16, c_t17⟩) ?_)
    go_wp2_with fail
    refine (CK.out _ HB0.out).mono ?_
    rintro e w1 ⟨rfl, hb1⟩
    have hz_w1 := hb1.size
    try simp only [World.size_alloc, World.size_setCell] at hz_w1
    have hh := bc18 hb1 ⟨c_t0, c_t1, c_t2, c_t3, c_t4, c_t5, c_t6, c_t7, c_t8, c_t9, c_t10, c_t11, c_t12, c_t13, c_t14, c_t15, c_t16, c_t17⟩
    clear c_t0 c_t1 c_t2 c_t3 c_t4 c_t5 c_t6 c_t7 c_t8 c_t9 c_t10 c_t11 c_t12 c_t13 c_t14 c_t15 c_t16 c_t17
    obtain ⟨c_t0, c_t1, c_t2, c_t3, c_t4, c_t5, c_t6, c_t7, c_t8, c_t9, c_t10, c_t11, c_t12, c_t13, c_t14, c_t15, c_t16, c_t17⟩ := hh
    replace z_t := blt hb1 z_t
    have hh := bc2 hb1 ⟨c_h0, c_h1⟩
    clear c_h0 c_h1
    obtain ⟨c_h0, c_h1⟩ := hh
    replace z_h := blt hb1 z_h
    have hh := bc2 hb1 ⟨c_k0, c_k1⟩
    clear c_k0 c_k1
    obtain ⟨c_k0, c_k1⟩ := hh
    replace z_k := blt hb1 z_k
    have hB1 : Below w.heap.size w w1 := below_via hb1 HB0.out HB0.out.size
    have HB1 := Lib.hid hB1
    clear hb1 hB1
    go_upto_region 4 with (fail)
    have K0 := Lib.hid (fun d os => Calls.regrown_of (w := w1) (d := d) (os := os) (IA.out (grow (redrawn w1 d) os) (below_via (below_regrown w1 d os) HB1.out HB1.out.size)))
    have K1 := Lib.hid (fun d os => Calls.regrown_of (w := w1) (d := d) (os := os) (IB.out (grow (redrawn w1 d) os) (below_via (below_regrown w1 d os) HB1.out HB1.out.size)))
    have q0 := cell_regrown c_t0
    have q1 := cell_regrown c_t1
    have q2 := cell_regrown c_t2
    have q3 := cell_regrown c_t3
    have q4 := cell_regrown c_t4
    have q5 := cell_regrown c_t5
    have q6 := cell_regrown c_t6
    have q7 := cell_regrown c_t7
    have q8 := cell_regrown c_t8
    have q9 := cell_regrown c_t9
    have q10 := cell_regrown c_t10
    have q11 := cell_regrown c_t11
    have q12 := cell_regrown c_t12
    have q13 := cell_regrown c_t13
    have q14 := cell_regrown c_t14
    have q15 := cell_regrown c_t15
    have q16 := cell_regrown c_t16
    have q17 := cell_regrown c_t17
    have q18 := cell_regrown c_h0
    have q19 := cell_regrown c_h1
    have q20 := cell_regrown c_k0
    have q21 := cell_regrown c_k1
    refine wp_region_quiet_below (by kernel_rfl) (by kernel_rfl) ?_
    repeat (first | go_big_quiet_skip | (go_big_quiet_want; refine quiet_load 33 (.tmp 3) (w.heap.size) [.int .u8 c.tag, .int .i64 c.most, .int .i64 c.seg, .int .i64 c.least, .int .i64 c.den, .int .i64 c.ll, .int .i64 c.rl, .int .i64 c.rh, .int .i64 c.lh, .int .i64 s.seg, .slice wa s.ws.length wc, .slice ka s.ks.length kc, .slice va s.vs.length vc, .slice ca s.cs.length cc, .int .u64 s.laid, .slice ga gs.length gc, .slice pa ps.length pc, .int .u64 mv] rfl rfl Tryz.underlying33 rfl (by kernel_rfl) (fun w9 hC => by obtain ⟨⟨dd, oo⟩, rfl⟩ := hC; exact list18 ⟨q0 dd oo, q1 dd oo, q2 dd oo, q3 dd oo, q4 dd oo, q5 dd oo, q6 dd oo, q7 dd oo, q8 dd oo, q9 dd oo, q10 dd oo, q11 dd oo, q12 dd oo, q13 dd oo, q14 dd oo, q15 dd oo, q16 dd oo, q17 dd oo⟩) ?_; (conv => arg 1; simp only [Act.put, List.setIfInBounds_toArray, List.set_cons_succ, List.set_cons_zero]); go_big_quiet_on) | go_big_quiet_step (first | with_reducible exact K0.out _ _ | with_reducible exact K1.out _ _ | exact K0.out _ _ | exact K1.out _ _))
    refine wpQuiet_nil ?_
    intro _ hw'
    obtain ⟨⟨dq, osq⟩, hw''⟩ := hw'
    subst hw''
    have hbq := below_regrown w1 dq osq
    clear q0 q1 q2 q3 q4 q5 q6 q7 q8 q9 q10 q11 q12 q13 q14 q15 q16 q17 q18 q19 q20 q21 K0 K1
    generalize Sort.grow (redrawn w1 dq) osq = wx at *
    have HB2 := Lib.hid (below_via hbq HB1.out HB1.out.size)
    go_wp2
    go_ret2
    exact ⟨rfl, HB2.out⟩
  · have d1 : decide (x < 0) = false := by simp; omega
    have d2 : decide (y < 0) = true := by simp; omega
    clear hxy
    go_enter Tryz.func12, Tryz.ntmps12
    go_upto_region 1 with (fail)
    generalize hw0 : (((w.alloc (.cells #[.int .u8 c.tag, .int .i64 c.most, .int .i64 c.seg, .int .i64 c.least, .int .i64 c.den, .int .i64 c.ll, .int .i64 c.rl, .int .i64 c.rh, .int .i64 c.lh, .int .i64 s.seg, .slice wa s.ws.length wc, .slice ka s.ks.length kc, .slice va s.vs.length vc, .slice ca s.cs.length cc, .int .u64 s.laid, .slice ga gs.length gc, .slice pa ps.length pc, .int .u64 mv] 33)).alloc (.cells #[.int .i64 n, .int .i64 g] 35)).alloc (.cells #[.int .i64 n2, .int .i64 g2] 35)) = w0
    have hh := ec18 hw0 (au18 (au18 (al18 (b := w.heap.size) (by simp))))
    obtain ⟨c_t0, c_t1, c_t2, c_t3, c_t4, c_t5, c_t6, c_t7, c_t8, c_t9, c_t10, c_t11, c_t12, c_t13, c_t14, c_t15, c_t16, c_t17⟩ := hh
    have z_t := elt hw0 (auz (auz (alz (b := w.heap.size) (by simp))))
    have hh := ec2 hw0 (au2 (al2 (b := w.heap.size + 1) (by simp)))
    obtain ⟨c_h0, c_h1⟩ := hh
    have z_h := elt hw0 (auz (alz (b := w.heap.size + 1) (by simp)))
    have hh := ec2 hw0 (al2 (b := w.heap.size + 2) (by simp))
    obtain ⟨c_k0, c_k1⟩ := hh
    have z_k := elt hw0 (alz (b := w.heap.size + 2) (by simp))
    have HB0 : Hid (Below w.heap.size w w0) := by rw [← hw0]; exact Lib.hid ((((Below.refl _ _).alloc (by first | exact Nat.le_refl _ | (simp; done) | (simp; omega)) _).alloc (by first | exact Nat.le_refl _ | (simp; done) | (simp; omega)) _).alloc (by first | exact Nat.le_refl _ | (simp; done) | (simp; omega)) _)
    clear hw0
    go_wp2_with (refine wpl_load 33 (.tmp 3) (w.heap.size) [.int .u8 c.tag, .int .i64 c.most, .int .i64 c.seg, .int .i64 c.least, .int .i64 c.den, .int .i64 c.ll, .int .i64 c.rl, .int .i64 c.rh, .int .i64 c.lh, .int .i64 s.seg, .slice wa s.ws.length wc, .slice ka s.ks.length kc, .slice va s.vs.length vc, .slice ca s.cs.length cc, .int .u64 s.laid, .slice ga gs.length gc, .slice pa ps.length pc, .int .u64 mv] rfl rfl rfl Tryz.underlying33 rfl (by kernel_rfl) (list18 ⟨c_t0, c_t1, c_t2, c_t3, c_t4, c_t5, c_t6, c_t7, c_t8, c_t9, c_t10, c_t11, c_t12, c_t13, c_t14, c_t15, c_t16, c_t17⟩) ?_)
    go_wp2_with fail
    refine (CK.out _ HB0.out).mono ?_
    rintro e w1 ⟨rfl, hb1⟩
    have hz_w1 := hb1.size
    try simp only [World.size_alloc, World.size_setCell] at hz_w1
    have hh := bc18 hb1 ⟨c_t0, c_t1, c_t2, c_t3, c_t4, c_t5, c_t6, c_t7, c_t8, c_t9, c_t10, c_t11, c_t12, c_t13, c_t14, c_t15, c_t16, c_t17⟩
    clear c_t0 c_t1 c_t2 c_t3 c_t4 c_t5 c_t6 c_t7 c_t8 c_t9 c_t10 c_t11 c_t12 c_t13 c_t14 c_t15 c_t16 c_t17
    obtain ⟨c_t0, c_t1, c_t2, c_t3, c_t4, c_t5, c_t6, c_t7, c_t8, c_t9, c_t10, c_t11, c_t12, c_t13, c_t14, c_t15, c_t16, c_t17⟩ := hh
    replace z_t := blt hb1 z_t
    have hh := bc2 hb1 ⟨c_h0, c_h1⟩
    clear c_h0 c_h1
    obtain ⟨c_h0, c_h1⟩ := hh
    replace z_h := blt hb1 z_h
    have hh := bc2 hb1 ⟨c_k0, c_k1⟩
    clear c_k0 c_k1
    obtain ⟨c_k0, c_k1⟩ := hh
    replace z_k := blt hb1 z_k
    have hB1 : Below w.heap.size w w1 := below_via hb1 HB0.out HB0.out.size
    have HB1 := Lib.hid hB1
    clear hb1 hB1
    go_upto_region 4 with (fail)
    have K0 := Lib.hid (fun d os => Calls.regrown_of (w := w1) (d := d) (os := os) (IA.out (grow (redrawn w1 d) os) (below_via (below_regrown w1 d os) HB1.out HB1.out.size)))
    have K1 := Lib.hid (fun d os => Calls.regrown_of (w := w1) (d := d) (os := os) (IB.out (grow (redrawn w1 d) os) (below_via (below_regrown w1 d os) HB1.out HB1.out.size)))
    have q0 := cell_regrown c_t0
    have q1 := cell_regrown c_t1
    have q2 := cell_regrown c_t2
    have q3 := cell_regrown c_t3
    have q4 := cell_regrown c_t4
    have q5 := cell_regrown c_t5
    have q6 := cell_regrown c_t6
    have q7 := cell_regrown c_t7
    have q8 := cell_regrown c_t8
    have q9 := cell_regrown c_t9
    have q10 := cell_regrown c_t10
    have q11 := cell_regrown c_t11
    have q12 := cell_regrown c_t12
    have q13 := cell_regrown c_t13
    have q14 := cell_regrown c_t14
    have q15 := cell_regrown c_t15
    have q16 := cell_regrown c_t16
    have q17 := cell_regrown c_t17
    have q18 := cell_regrown c_h0
    have q19 := cell_regrown c_h1
    have q20 := cell_regrown c_k0
    have q21 := cell_regrown c_k1
    refine wp_region_quiet_below (by kernel_rfl) (by kernel_rfl) ?_
    repeat (first | go_big_quiet_skip | (go_big_quiet_want; refine quiet_load 33 (.tmp 3) (w.heap.size) [.int .u8 c.tag, .int .i64 c.most, .int .i64 c.seg, .int .i64 c.least, .int .i64 c.den, .int .i64 c.ll, .int .i64 c.rl, .int .i64 c.rh, .int .i64 c.lh, .int .i64 s.seg, .slice wa s.ws.length wc, .slice ka s.ks.length kc, .slice va s.vs.length vc, .slice ca s.cs.length cc, .int .u64 s.laid, .slice ga gs.length gc, .slice pa ps.length pc, .int .u64 mv] rfl rfl Tryz.underlying33 rfl (by kernel_rfl) (fun w9 hC => by obtain ⟨⟨dd, oo⟩, rfl⟩ := hC; exact list18 ⟨q0 dd oo, q1 dd oo, q2 dd oo, q3 dd oo, q4 dd oo, q5 dd oo, q6 dd oo, q7 dd oo, q8 dd oo, q9 dd oo, q10 dd oo, q11 dd oo, q12 dd oo, q13 dd oo, q14 dd oo, q15 dd oo, q16 dd oo, q17 dd oo⟩) ?_; (conv => arg 1; simp only [Act.put, List.setIfInBounds_toArray, List.set_cons_succ, List.set_cons_zero]); go_big_quiet_on) | go_big_quiet_step (first | with_reducible exact K0.out _ _ | with_reducible exact K1.out _ _ | exact K0.out _ _ | exact K1.out _ _))
    refine wpQuiet_nil ?_
    intro _ hw'
    obtain ⟨⟨dq, osq⟩, hw''⟩ := hw'
    subst hw''
    have hbq := below_regrown w1 dq osq
    clear q0 q1 q2 q3 q4 q5 q6 q7 q8 q9 q10 q11 q12 q13 q14 q15 q16 q17 q18 q19 q20 q21 K0 K1
    generalize Sort.grow (redrawn w1 dq) osq = wx at *
    have HB2 := Lib.hid (below_via hbq HB1.out HB1.out.size)
    go_wp2
    go_ret2
    exact ⟨rfl, HB2.out⟩
theorem Compare15_in (c : Cfg) (s : SlC) (wa ka va ca : Option Addr) (wc kc vc cc : Nat) (gs ps : List Int) (mv : Int) (ga pa : Option Addr) (gc pc : Nat) (n g n2 g2 x y : Int) (hx : 0 ≤ x) (hy : 0 ≤ y) (w : World) (CK : Hid (∀ W, Below w.heap.size w W → Calls Tryz.prog 16 #[.agg #[.int .u8 c.tag, .int .i64 c.most, .int .i64 c.seg, .int .i64 c.least, .int .i64 c.den, .int .i64 c.ll, .int .i64 c.rl, .int .i64 c.rh, .int .i64 c.lh, .int .i64 s.seg, .slice wa s.ws.length wc, .slice ka s.ks.length kc, .slice va s.vs.length vc, .slice ca s.cs.length cc, .int .u64 s.laid, .slice ga gs.length gc, .slice pa ps.length pc, .int .u64 mv]] W (AnsB W (.int .i64 0)))) (IA : Hid (∀ W, Below w.heap.size w W → Calls Tryz.prog 31 #[.agg #[.int .u8 c.tag, .int .i64 c.most, .int .i64 c.seg, .int .i64 c.least, .int .i64 c.den, .int .i64 c.ll, .int .i64 c.rl, .int .i64 c.rh, .int .i64 c.lh, .int .i64 s.seg, .slice wa s.ws.length wc, .slice ka s.ks.length kc, .slice va s.vs.length vc, .slice ca s.cs.length cc, .int .u64 s.laid, .slice ga gs.length gc, .slice pa ps.length pc, .int .u64 mv], .agg #[.int .i64 n, .int .i64 g]] W (AnsB W (.int .i64 x)))) (IB : Hid (∀ W, Below w.heap.size w W → Calls Tryz.prog 31 #[.agg #[.int .u8 c.tag, .int .i64 c.most, .int .i64 c.seg, .int .i64 c.least, .int .i64 c.den, .int .i64 c.ll, .int .i64 c.rl, .int .i64 c.rh, .int .i64 c.lh, .int .i64 s.seg, .slice wa s.ws.length wc, .slice ka s.ks.length kc, .slice va s.vs.length vc, .slice ca s.cs.length cc, .int .u64 s.laid, .slice ga gs.length gc, .slice pa ps.length pc, .int .u64 mv], .agg #[.int .i64 n2, .int .i64 g2]] W (AnsB W (.int .i64 y)))) :
    Calls Tryz.prog 12 #[.agg #[.int .u8 c.tag, .int .i64 c.most, .int .i64 c.seg, .int .i64 c.least, .int .i64 c.den, .int .i64 c.ll, .int .i64 c.rl, .int .i64 c.rh, .int .i64 c.lh, .int .i64 s.seg, .slice wa s.ws.length wc, .slice ka s.ks.length kc, .slice va s.vs.length vc, .slice ca s.cs.length cc, .int .u64 s.laid, .slice ga gs.length gc, .slice pa ps.length pc, .int .u64 mv], .agg #[.int .i64 n, .int .i64 g], .agg #[.int .i64 n2, .int .i64 g2]] w (AnsB w (.tuple #[.int .i64 (cmpI x y), .int .i64 0])) := by
  have dx : decide (x < 0) = false := by simpa using hx
  have dy : decide (y < 0) = false := by simpa using hy
  rcases Int.lt_trichotomy x y with q | q | q
  · have d1 : decide (x < y) = true := by simpa using q
    have hc : cmpI x y = -1 := by rw [cmpI, if_pos q]
    rw [hc]
    clear hc
    go_enter Tryz.func12, Tryz.ntmps12
    go_upto_region 1 with (fail)
    generalize hw0 : (((w.alloc (.cells #[.int .u8 c.tag, .int .i64 c.most, .int .i64 c.seg, .int .i64 c.least, .int .i64 c.den, .int .i64 c.ll, .int .i64 c.rl, .int .i64 c.rh, .int .i64 c.lh, .int .i64 s.seg, .slice wa s.ws.length wc, .slice ka s.ks.length kc, .slice va s.vs.length vc, .slice ca s.cs.length cc, .int .u64 s.laid, .slice ga gs.length gc, .slice pa ps.length pc, .int .u64 mv] 33)).alloc (.cells #[.int .i64 n, .int .i64 g] 35)).alloc (.cells #[.int .i64 n2, .int .i64 g2] 35)) = w0
    have hh := ec18 hw0 (au18 (au18 (al18 (b := w.heap.size) (by simp))))
    obtain ⟨c_t0, c_t1, c_t2, c_t3, c_t4, c_t5, c_t6, c_t7, c_t8, c_t9, c_t10, c_t11, c_t12, c_t13, c_t14, c_t15, c_t16, c_t17⟩ := hh
    have z_t := elt hw0 (auz (auz (alz (b := w.heap.size) (by simp))))
    have hh := ec2 hw0 (au2 (al2 (b := w.heap.size + 1) (by simp)))
    obtain ⟨c_h0, c_h1⟩ := hh
    have z_h := elt hw0 (auz (alz (b := w.heap.size + 1) (by simp)))
    have hh := ec2 hw0 (al2 (b := w.heap.size + 2) (by simp))
    obtain ⟨c_k0, c_k1⟩ := hh
    have z_k := elt hw0 (alz (b := w.heap.size + 2) (by simp))
    have HB0 : Hid (Below w.heap.size w w0) := by rw [← hw0]; exact Lib.hid ((((Below.refl _ _).alloc (by first | exact Nat.le_refl _ | (simp; done) | (simp; omega)) _).alloc (by first | exact Nat.le_refl _ | (simp; done) | (simp; omega)) _).alloc (by first | exact Nat.le_refl _ | (simp; done) | (simp; omega)) _)
    clear hw0
    go_wp2_with (refine wpl_load 33 (.tmp 3) (w.heap.size) [.int .u8 c.tag, .int .i64 c.most, .int .i64 c.seg, .int .i64 c.least, .int .i64 c.den, .int .i64 c.ll, .int .i64 c.rl, .int .i64 c.rh, .int .i64 c.lh, .int .i64 s.seg, .slice wa s.ws.length wc, .slice ka s.ks.length kc, .slice va s.vs.length vc, .slice ca s.cs.length cc, .int .u64 s.laid, .slice ga gs.length gc, .slice pa ps.length pc, .int .u64 mv] rfl rfl rfl Tryz.underlying33 rfl (by kernel_rfl) (list18 ⟨c_t0, c_t1, c_t2, c_t3, c_t4, c_t5, c_t6, c_t7, c_t8, c_t9, c_t10, c_t11, c_t12, c_t13, c_t14, c_t15, c_t16, c_t17⟩) ?_)
    go_wp2_with fail
    refine (CK.out _ HB0.out).mono ?_
    rintro e w1 ⟨rfl, hb1⟩
    have hz_w1 := hb1.size
    try simp only [World.size_alloc, World.size_setCell] at hz_w1
    have hh := bc18 hb1 ⟨c_t0, c_t1, c_t2, c_t3, c_t4, c_t5, c_t6, c_t7, c_t8, c_t9, c_t10, c_t11, c_t12, c_t13, c_t14, c_t15, c_t16, c_t17⟩
    clear c_t0 c_t1 c_t2 c_t3 c_t4 c_t5 c_t6 c_t7 c_t8 c_t9 c_t10 c_t11 c_t12 c_t13 c_t14 c_t15 c_t16 c_t17
    obtain ⟨c_t0, c_t1, c_t2, c_t3, c_t4, c_t5, c_t6, c_t7, c_t8, c_t9, c_t10, c_t11, c_t12, c_t13, c_t14, c_t15, c_t16, c_t17⟩ := hh
    replace z_t := blt hb1 z_t
    have hh := bc2 hb1 ⟨c_h0, c_h1⟩
    clear c_h0 c_h1
    obtain ⟨c_h0, c_h1⟩ := hh
    replace z_h := blt hb1 z_h
    have hh := bc2 hb1 ⟨c_k0, c_k1⟩
    clear c_k0 c_k1
    obtain ⟨c_k0, c_k1⟩ := hh
    replace z_k := blt hb1 z_k
    have hB1 : Below w.heap.size w w1 := below_via hb1 HB0.out HB0.out.size
    have HB1 := Lib.hid hB1
    clear hb1 hB1
    go_upto_region 4 with (fail)
    have K0 := Lib.hid (fun d os => Calls.regrown_of (w := w1) (d := d) (os := os) (IA.out (grow (redrawn w1 d) os) (below_via (below_regrown w1 d os) HB1.out HB1.out.size)))
    have K1 := Lib.hid (fun d os => Calls.regrown_of (w := w1) (d := d) (os := os) (IB.out (grow (redrawn w1 d) os) (below_via (below_regrown w1 d os) HB1.out HB1.out.size)))
    have q0 := cell_regrown c_t0
    have q1 := cell_regrown c_t1
    have q2 := cell_regrown c_t2
    have q3 := cell_regrown c_t3
    have q4 := cell_regrown c_t4
    have q5 := cell_regrown c_t5
    have q6 := cell_regrown c_t6
    have q7 := cell_regrown c_t7
    have q8 := cell_regrown c_t8
    have q9 := cell_regrown c_t9
    have q10 := cell_regrown c_t10
    have q11 := cell_regrown c_t11
    have q12 := cell_regrown c_t12
    have q13 := cell_regrown c_t13
    have q14 := cell_regrown c_t14
    have q15 := cell_regrown c_t15
    have q16 := cell_regrown c_t16
    have q17 := cell_regrown c_t17
    have q18 := cell_regrown c_h0
    have q19 := cell_regrown c_h1
    have q20 := cell_regrown c_k0
    have q21 := cell_regrown c_k1
    refine wp_region_quiet_below (by kernel_rfl) (by kernel_rfl) ?_
    repeat (first | go_big_quiet_skip | (go_big_quiet_want; refine quiet_load 33 (.tmp 3) (w.heap.size) [.int .u8 c.tag, .int .i64 c.most, .int .i64 c.seg, .int .i64 c.least, .int .i64 c.den, .int .i64 c.ll, .int .i64 c.rl, .int .i64 c.rh, .int .i64 c.lh, .int .i64 s.seg, .slice wa s.ws.length wc, .slice ka s.ks.length kc, .slice va s.vs.length vc, .slice ca s.cs.length cc, .int .u64 s.laid, .slice ga gs.length gc, .slice pa ps.length pc, .int .u64 mv] rfl rfl Tryz.underlying33 rfl (by kernel_rfl) (fun w9 hC => by obtain ⟨⟨dd, oo⟩, rfl⟩ := hC; exact list18 ⟨q0 dd oo, q1 dd oo, q2 dd oo, q3 dd oo, q4 dd oo, q5 dd oo, q6 dd oo, q7 dd oo, q8 dd oo, q9 dd oo, q10 dd oo, q11 dd oo, q12 dd oo, q13 dd oo, q14 dd oo, q15 dd oo, q16 dd oo, q17 dd oo⟩) ?_; (conv => arg 1; simp only [Act.put, List.setIfInBounds_toArray, List.set_cons_succ, List.set_cons_zero]); go_big_quiet_on) | go_big_quiet_step (first | with_reducible exact K0.out _ _ | with_reducible exact K1.out _ _ | exact K0.out _ _ | exact K1.out _ _))
    refine wpQuiet_nil ?_
    intro _ hw'
    obtain ⟨⟨dq, osq⟩, hw''⟩ := hw'
    subst hw''
    have hbq := below_regrown w1 dq osq
    clear q0 q1 q2 q3 q4 q5 q6 q7 q8 q9 q10 q11 q12 q13 q14 q15 q16 q17 q18 q19 q20 q21 K0 K1
    generalize Sort.grow (redrawn w1 dq) osq = wx at *
    have HB2 := Lib.hid (below_via hbq HB1.out HB1.out.size)
    go_wp2
    go_ret2
    exact ⟨rfl, HB2.out⟩
  · subst q
    have d1 : decide (x < x) = false := by simp
    have hc : cmpI x x = 0 := by simp [cmpI]
    rw [hc]
    clear hc
    go_enter Tryz.func12, Tryz.ntmps12
    go_upto_region 1 with (fail)
    generalize hw0 : (((w.alloc (.cells #[.int .u8 c.tag, .int .i64 c.most, .int .i64 c.seg, .int .i64 c.least, .int .i64 c.den, .int .i64 c.ll, .int .i64 c.rl, .int .i64 c.rh, .int .i64 c.lh, .int .i64 s.seg, .slice wa s.ws.length wc, .slice ka s.ks.length kc, .slice va s.vs.length vc, .slice ca s.cs.length cc, .int .u64 s.laid, .slice ga gs.length gc, .slice pa ps.length pc, .int .u64 mv] 33)).alloc (.cells #[.int .i64 n, .int .i64 g] 35)).alloc (.cells #[.int .i64 n2, .int .i64 g2] 35)) = w0
    have hh := ec18 hw0 (au18 (au18 (al18 (b := w.heap.size) (by simp))))
    obtain ⟨c_t0, c_t1, c_t2, c_t3, c_t4, c_t5, c_t6, c_t7, c_t8, c_t9, c_t10, c_t11, c_t12, c_t13, c_t14, c_t15, c_t16, c_t17⟩ := hh
    have z_t := elt hw0 (auz (auz (alz (b := w.heap.size) (by simp))))
    have hh := ec2 hw0 (au2 (al2 (b := w.heap.size + 1) (by simp)))
    obtain ⟨c_h0, c_h1⟩ := hh
    have z_h := elt hw0 (auz (alz (b := w.heap.size + 1) (by simp)))
    have hh := ec2 hw0 (al2 (b := w.heap.size + 2) (by simp))
    obtain ⟨c_k0, c_k1⟩ := hh
    have z_k := elt hw0 (alz (b := w.heap.size + 2) (by simp))
    have HB0 : Hid (Below w.heap.size w w0) := by rw [← hw0]; exact Lib.hid ((((Below.refl _ _).alloc (by first | exact Nat.le_refl _ | (simp; done) | (simp; omega)) _).alloc (by first | exact Nat.le_refl _ | (simp; done) | (simp; omega)) _).alloc (by first | exact Nat.le_refl _ | (simp; done) | (simp; omega)) _)
    clear hw0
    go_wp2_with (refine wpl_load 33 (.tmp 3) (w.heap.size) [.int .u8 c.tag, .int .i64 c.most, .int .i64 c.seg, .int .i64 c.least, .int .i64 c.den, .int .i64 c.ll, .int .i64 c.rl, .int .i64 c.rh, .int .i64 c.lh, .int .i64 s.seg, .slice wa s.ws.length wc, .slice ka s.ks.length kc, .slice va s.vs.length vc, .slice ca s.cs.length cc, .int .u64 s.laid, .slice ga gs.length gc, .slice pa ps.length pc, .int .u64 mv] rfl rfl rfl Tryz.underlying33 rfl (by kernel_rfl) (list18 ⟨c_t0, c_t1, c_t2, c_t3, c_t4, c_t5, c_t6, c_t7, c_t8, c_t9, c_t10, c_t11, c_t12, c_t13, c_t14, c_t15, c_t16, c_t17⟩) ?_)
    go_wp2_with fail
    refine (CK.out _ HB0.out).mono ?_
    rintro e w1 ⟨rfl, hb1⟩
    have hz_w1 := hb1.size
    try simp only [World.size_alloc, World.size_setCell] at hz_w1
    have hh := bc18 hb1 ⟨c_t0, c_t1, c_t2, c_t3, c_t4, c_t5, c_t6, c_t7, c_t8, c_t9, c_t10, c_t11, c_t12, c_t13, c_t14, c_t15, c_t16, c_t17⟩
    clear c_t0 c_t1 c_t2 c_t3 c_t4 c_t5 c_t6 c_t7 c_t8 c_t9 c_t10 c_t11 c_t12 c_t13 c_t14 c_t15 c_t16 c_t17
    obtain ⟨c_t0, c_t1, c_t2, c_t3, c_t4, c_t5, c_t6, c_t7, c_t8, c_t9, c_t10, c_t11, c_t12, c_t13, c_t14, c_t15, c_t16, c_t17⟩ := hh
    replace z_t := blt hb1 z_t
    have hh := bc2 hb1 ⟨c_h0, c_h1⟩
    clear c_h0 c_h1
    obtain ⟨c_h0, c_h1⟩ := hh
    replace z_h := blt hb1 z_h
    have hh := bc2 hb1 ⟨c_k0, c_k1⟩
    clear c_k0 c_k1
    obtain ⟨c_k0, c_k1⟩ := hh
    replace z_k := blt hb1 z_k
    have hB1 : Below w.heap.size w w1 := below_via hb1 HB0.out HB0.out.size
    have HB1 := Lib.hid hB1
    clear hb1 hB1
    go_upto_region 4 with (fail)
    have K0 := Lib.hid (fun d os => Calls.regrown_of (w := w1) (d := d) (os := os) (IA.out (grow (redrawn w1 d) os) (below_via (below_regrown w1 d os) HB1.out HB1.out.size)))
    have K1 := Lib.hid (fun d os => Calls.regrown_of (w := w1) (d := d) (os := os) (IB.out (grow (redrawn w1 d) os) (below_via (below_regrown w1 d os) HB1.out HB1.out.size)))
    have q0 := cell_regrown c_t0
    have q1 := cell_regrown c_t1
    have q2 := cell_regrown c_t2
    have q3 := cell_regrown c_t3
    have q4 := cell_regrown c_t4
    have q5 := cell_regrown c_t5
    have q6 := cell_regrown c_t6
    have q7 := cell_regrown c_t7
    have q8 := cell_regrown c_t8
    have q9 := cell_regrown c_t9
    have q10 := cell_regrown c_t10
    have q11 := cell_regrown c_t11
    have q12 := cell_regrown c_t12
    have q13 := cell_regrown c_t13
    have q14 := cell_regrown c_t14
    have q15 := cell_regrown c_t15
    have q16 := cell_regrown c_t16
    have q17 := cell_regrown c_t17
    have q18 := cell_regrown c_h0
    have q19 := cell_regrown c_h1
    have q20 := cell_regrown c_k0
    have q21 := cell_regrown c_k1
    refine wp_region_quiet_below (by kernel_rfl) (by kernel_rfl) ?_
    repeat (first | go_big_quiet_skip | (go_big_quiet_want; refine quiet_load 33 (.tmp 3) (w.heap.size) [.int .u8 c.tag, .int .i64 c.most, .int .i64 c.seg, .int .i64 c.least, .int .i64 c.den, .int .i64 c.ll, .int .i64 c.rl, .int .i64 c.rh, .int .i64 c.lh, .int .i64 s.seg, .slice wa s.ws.length wc, .slice ka s.ks.length kc, .slice va s.vs.length vc, .slice ca s.cs.length cc, .int .u64 s.laid, .slice ga gs.length gc, .slice pa ps.length pc, .int .u64 mv] rfl rfl Tryz.underlying33 rfl (by kernel_rfl) (fun w9 hC => by obtain ⟨⟨dd, oo⟩, rfl⟩ := hC; exact list18 ⟨q0 dd oo, q1 dd oo, q2 dd oo, q3 dd oo, q4 dd oo, q5 dd oo, q6 dd oo, q7 dd oo, q8 dd oo, q9 dd oo, q10 dd oo, q11 dd oo, q12 dd oo, q13 dd oo, q14 dd oo, q15 dd oo, q16 dd oo, q17 dd oo⟩) ?_; (conv => arg 1; simp only [Act.put, List.setIfInBounds_toArray, List.set_cons_succ, List.set_cons_zero]); go_big_quiet_on) | go_big_quiet_step (first | with_reducible exact K0.out _ _ | with_reducible exact K1.out _ _ | exact K0.out _ _ | exact K1.out _ _))
    refine wpQuiet_nil ?_
    intro _ hw'
    obtain ⟨⟨dq, osq⟩, hw''⟩ := hw'
    subst hw''
    have hbq := below_regrown w1 dq osq
    clear q0 q1 q2 q3 q4 q5 q6 q7 q8 q9 q10 q11 q12 q13 q14 q15 q16 q17 q18 q19 q20 q21 K0 K1
    generalize Sort.grow (redrawn w1 dq) osq = wx at *
    have HB2 := Lib.hid (below_via hbq HB1.out HB1.out.size)
    go_wp2
    go_ret2
    exact ⟨rfl, HB2.out⟩
  · have d1 : decide (x < y) = false := by simp; omega
    have d2 : decide (y < x) = true := by simpa using q
    have hc : cmpI x y = 1 := by rw [cmpI, if_neg (by omega), if_pos q]
    rw [hc]
    clear hc
    go_enter Tryz.func12, Tryz.ntmps12
    go_upto_region 1 with (fail)
    generalize hw0 : (((w.alloc (.cells #[.int .u8 c.tag, .int .i64 c.most, .int .i64 c.seg, .int .i64 c.least, .int .i64 c.den, .int .i64 c.ll, .int .i64 c.rl, .int .i64 c.rh, .int .i64 c.lh, .int .i64 s.seg, .slice wa s.ws.length wc, .slice ka s.ks.length kc, .slice va s.vs.length vc, .slice ca s.cs.length cc, .int .u64 s.laid, .slice ga gs.length gc, .slice pa ps.length pc, .int .u64 mv] 33)).alloc (.cells #[.int .i64 n, .int .i64 g] 35)).alloc (.cells #[.int .i64 n2, .int .i64 g2] 35)) = w0
    have hh := ec18 hw0 (au18 (au18 (al18 (b := w.heap.size) (by simp))))
    obtain ⟨c_t0, c_t1, c_t2, c_t3, c_t4, c_t5, c_t6, c_t7, c_t8, c_t9, c_t10, c_t11, c_t12, c_t13, c_t14, c_t15, c_t16, c_t17⟩ := hh
    have z_t := elt hw0 (auz (auz (alz (b := w.heap.size) (by simp))))
    have hh := ec2 hw0 (au2 (al2 (b := w.heap.size + 1) (by simp)))
    obtain ⟨c_h0, c_h1⟩ := hh
    have z_h := elt hw0 (auz (alz (b := w.heap.size + 1) (by simp)))
    have hh := ec2 hw0 (al2 (b := w.heap.size + 2) (by simp))
    obtain ⟨c_k0, c_k1⟩ := hh
    have z_k := elt hw0 (alz (b := w.heap.size + 2) (by simp))
    have HB0 : Hid (Below w.heap.size w w0) := by rw [← hw0]; exact Lib.hid ((((Below.refl _ _).alloc (by first | exact Nat.le_refl _ | (simp; done) | (simp; omega)) _).alloc (by first | exact Nat.le_refl _ | (simp; done) | (simp; omega)) _).alloc (by first | exact Nat.le_refl _ | (simp; done) | (simp; omega)) _)
    clear hw0
    go_wp2_with (refine wpl_load 33 (.tmp 3) (w.heap.size) [.int .u8 c.tag, .int .i64 c.most, .int .i64 c.seg, .int .i64 c.least, .int .i64 c.den, .int .i64 c.ll, .int .i64 c.rl, .int .i64 c.rh, .int .i64 c.lh, .int .i64 s.seg, .slice wa s.ws.length wc, .slice ka s.ks.length kc, .slice va s.vs.length vc, .slice ca s.cs.length cc, .int .u64 s.laid, .slice ga gs.length gc, .slice pa ps.length pc, .int .u64 mv] rfl rfl rfl Tryz.underlying33 rfl (by kernel_rfl) (list18 ⟨c_t0, c_t1, c_t2, c_t3, c_t4, c_t5, c_t6, c_t7, c_t8, c_t9, c_t10, c_t11, c_t12, c_t13, c_t14, c_t15, c_t16, c_t17⟩) ?_)
    go_wp2_with fail
    refine (CK.out _ HB0.out).mono ?_
    rintro e w1 ⟨rfl, hb1⟩
    have hz_w1 := hb1.size
    try simp only [World.size_alloc, World.size_setCell] at hz_w1
    have hh := bc18 hb1 ⟨c_t0, c_t1, c_t2, c_t3, c_t4, c_t5, c_t6, c_t7, c_t8, c_t9, c_t10, c_t11, c_t12, c_t13, c_t14, c_t15, c_t16, c_t17⟩
    clear c_t0 c_t1 c_t2 c_t3 c_t4 c_t5 c_t6 c_t7 c_t8 c_t9 c_t10 c_t11 c_t12 c_t13 c_t14 c_t15 c_t16 c_t17
    obtain ⟨c_t0, c_t1, c_t2, c_t3, c_t4, c_t5, c_t6, c_t7, c_t8, c_t9, c_t10, c_t11, c_t12, c_t13, c_t14, c_t15, c_t16, c_t17⟩ := hh
    replace z_t := blt hb1 z_t
    have hh := bc2 hb1 ⟨c_h0, c_h1⟩
    clear c_h0 c_h1
    obtain ⟨c_h0, c_h1⟩ := hh
    replace z_h := blt hb1 z_h
    have hh := bc2 hb1 ⟨c_k0, c_k1⟩
    clear c_k0 c_k1
    obtain ⟨c_k0, c_k1⟩ := hh
    replace z_k := blt hb1 z_k
    have hB1 : Below w.heap.size w w1 := below_via hb1 HB0.out HB0.out.size
    have HB1 := Lib.hid hB1
    clear hb1 hB1
    go_upto_region 4 with (fail)
    have K0 := Lib.hid (fun d os => Calls.regrown_of (w := w1) (d := d) (os := os) (IA.out (grow (redrawn w1 d) os) (below_via (below_regrown w1 d os) HB1.out HB1.out.size)))
    have K1 := Lib.hid (fun d os => Calls.regrown_of (w := w1) (d := d) (os := os) (IB.out (grow (redrawn w1 d) os) (below_via (below_regrown w1 d os) HB1.out HB1.out.size)))
    have q0 := cell_regrown c_t0
    have q1 := cell_regrown c_t1
    have q2 := cell_regrown c_t2
    have q3 := cell_regrown c_t3
    have q4 := cell_regrown c_t4
    have q5 := cell_regrown c_t5
    have q6 := cell_regrown c_t6
    have q7 := cell_regrown c_t7
    have q8 := cell_regrown c_t8
    have q9 := cell_regrown c_t9
    have q10 := cell_regrown c_t10
    have q11 := cell_regrown c_t11
    have q12 := cell_regrown c_t12
    have q13 := cell_regrown c_t13
    have q14 := cell_regrown c_t14
    have q15 := cell_regrown c_t15
    have q16 := cell_regrown c_t16
    have q17 := cell_regrown c_t17
    have q18 := cell_regrown c_h0
    have q19 := cell_regrown c_h1
    have q20 := cell_regrown c_k0
    have q21 := cell_regrown c_k1
    refine wp_region_quiet_below (by kernel_rfl) (by kernel_rfl) ?_
    repeat (first | go_big_quiet_skip | (go_big_quiet_want; refine quiet_load 33 (.tmp 3) (w.heap.size) [.int .u8 c.tag, .int .i64 c.most, .int .i64 c.seg, .int .i64 c.least, .int .i64 c.den, .int .i64 c.ll, .int .i64 c.rl, .int .i64 c.rh, .int .i64 c.lh, .int .i64 s.seg, .slice wa s.ws.length wc, .slice ka s.ks.length kc, .slice va s.vs.length vc, .slice ca s.cs.length cc, .int .u64 s.laid, .slice ga gs.length gc, .slice pa ps.length pc, .int .u64 mv] rfl rfl Tryz.underlying33 rfl (by kernel_rfl) (fun w9 hC => by obtain ⟨⟨dd, oo⟩, rfl⟩ := hC; exact list18 ⟨q0 dd oo, q1 dd oo, q2 dd oo, q3 dd oo, q4 dd oo, q5 dd oo, q6 dd oo, q7 dd oo, q8 dd oo, q9 dd oo, q10 dd oo, q11 dd oo, q12 dd oo, q13 dd oo, q14 dd oo, q15 dd oo, q16 dd oo, q17 dd oo⟩) ?_; (conv => arg 1; simp only [Act.put, List.setIfInBounds_toArray, List.set_cons_succ, List.set_cons_zero]); go_big_quiet_on) | go_big_quiet_step (first | with_reducible exact K0.out _ _ | with_reducible exact K1.out _ _ | exact K0.out _ _ | exact K1.out _ _))
    refine wpQuiet_nil ?_
    intro _ hw'
    obtain ⟨⟨dq, osq⟩, hw''⟩ := hw'
    subst hw''
    have hbq := below_regrown w1 dq osq
    clear q0 q1 q2 q3 q4 q5 q6 q7 q8 q9 q10 q11 q12 q13 q14 q15 q16 q17 q18 q19 q20 q21 K0 K1
    generalize Sort.grow (redrawn w1 dq) osq = wx at *
    have HB2 := Lib.hid (below_via hbq HB1.out HB1.out.size)
    go_wp2
    go_ret2
    exact ⟨rfl, HB2.out⟩
end Go.Proofs.YtjhpblejlchhjaaGreat

/- The reference's places, what it asks of a list, Check. -/
import Derived.Test.YtjhpblejlchhjaaGreatOmBs
namespace Go.Proofs.YtjhpblejlchhjaaGreat
set_option maxRecDepth 100000
set_option maxHeartbeats 4000000
open Go.RowKit Go.Shelf Go.Sort
set_option linter.unusedVariables false
set_option linter.unusedSimpArgs false

def lnkL (s : SlC) (ps : List Int) (L : List Nat) (k : Nat) : Bool := (List.range k).all fun i => lnkAt s ps (L.getD i 0)
theorem lnkL_succ (s : SlC) (ps : List Int) (L : List Nat) (k : Nat) : lnkL s ps L (k + 1) = (lnkL s ps L k && lnkAt s ps (L.getD k 0)) := by simp [lnkL, List.range_succ]
theorem lnkL_false {s : SlC} {ps : List Int} {L : List Nat} {k n : Nat} (hk : k < n) (h : lnkAt s ps (L.getD k 0) = false) : lnkL s ps L n = false := by
  rw [lnkL, List.all_eq_false]
  exact ⟨k, by simpa using hk, by simp only [h]; decide⟩
theorem lnkL_eq (s : SlC) (ps : List Int) (n : Nat) : lnkL s ps (plsW s.ws 0 n) (plsW s.ws 0 n).length = lnkTo s ps n := by
  rw [Bool.eq_iff_iff]
  unfold lnkL lnkTo
  rw [List.all_eq_true, List.all_eq_true]
  constructor
  · intro h i hi
    have hi := List.mem_range.1 hi
    cases hb : bitW s.ws i with
    | false => rfl
    | true =>
      have hm : i ∈ plsW s.ws 0 n := pls_mem_iff.2 ⟨⟨Nat.zero_le _, hi⟩, hb⟩
      obtain ⟨k, hk, e⟩ := List.getElem_of_mem hm
      have := h k (List.mem_range.2 hk)
      rw [List.getD_eq_getElem?_getD, List.getElem?_eq_getElem hk, e] at this
      simpa using this
  · intro h k hk
    have hk := List.mem_range.1 hk
    have hm : (plsW s.ws 0 n).getD k 0 ∈ plsW s.ws 0 n := by
      rw [List.getD_eq_getElem?_getD, List.getElem?_eq_getElem hk]; exact List.getElem_mem hk
    have h2 := pls_mem_iff.1 hm
    have e := h _ (List.mem_range.2 h2.1.2)
    rw [h2.2] at e
    simpa only [Bool.not_true, Bool.false_or] using e
theorem Places15_ok (s : SlC) (wa ka va ca : Option Addr) (wc kc vc cc : Nat) (L : List Nat) (w : World) (PL : Hid (∀ W, Below w.heap.size w W → Calls Tryz.prog 82 #[.slice wa s.ws.length wc, .int .i64 0, .int .i64 s.ks.length] W (FreshInts W (ints L)))) :
    Calls Tryz.prog 53 #[.agg #[.int .i64 s.seg, .slice wa s.ws.length wc, .slice ka s.ks.length kc, .slice va s.vs.length vc, .slice ca s.cs.length cc, .int .u64 s.laid]] w (FreshInts w (ints L)) := by
  go_enter Tryz.func53, Tryz.ntmps53
  go_wp2_with fail
  refine (PL.out _ (by (exact xbel))).mono ?_
  rintro e w1 ⟨v, rfl, ho1, hb1⟩
  have hz_w1 := hb1.size
  try simp only [World.size_alloc, World.size_setCell] at hz_w1
  have hh := bc6 hb1 (al6 (b := w.heap.size) (by simp))
  obtain ⟨c_t0, c_t1, c_t2, c_t3, c_t4, c_t5⟩ := hh
  have z_t := blt hb1 (alz (b := w.heap.size) (by simp))
  have hB1 : Below w.heap.size w w1 := by (exact xbel)
  go_wp2
  go_ret
  exact ⟨v, rfl, owns_base ho1 (by simp), hB1⟩
theorem linked_len (s : SlC) (wa ka va ca : Option Addr) (wc kc vc cc : Nat) (gs ps : List Int) (ga pa : Option Addr) (gc pc : Nat) (L : List Nat) (lv e0 : Int) (hne : lv ≠ L.length) (w : World)
    (PL : Hid (∀ W, Below w.heap.size w W → Calls Tryz.prog 53 #[.agg #[.int .i64 s.seg, .slice wa s.ws.length wc, .slice ka s.ks.length kc, .slice va s.vs.length vc, .slice ca s.cs.length cc, .int .u64 s.laid]] W (FreshInts W (ints L)))) (LV : Hid (∀ W, Below w.heap.size w W → Calls Tryz.prog 64 #[.agg #[.slice ga gs.length gc, .slice pa ps.length pc]] W (AnsB W (.tuple #[.int .i64 lv, .int .i64 e0])))) :
    Calls Tryz.prog 38 #[.agg #[.int .i64 s.seg, .slice wa s.ws.length wc, .slice ka s.ks.length kc, .slice va s.vs.length vc, .slice ca s.cs.length cc, .int .u64 s.laid], .agg #[.slice ga gs.length gc, .slice pa ps.length pc]] w (AnsB w (.bool false)) := by
  have HLN := Lib.hid (ints_length L)
  go_enter Tryz.func38, Tryz.ntmps38
  go_wp2_with fail
  refine (PL.out _ (by (exact xbel))).mono ?_
  rintro e w1 ⟨v, rfl, ho1, hb1⟩
  have hz_w1 := hb1.size
  try simp only [World.size_alloc, World.size_setCell] at hz_w1
  have hh := bc6 hb1 (au6 (al6 (b := w.heap.size) (by simp)))
  obtain ⟨c_t0, c_t1, c_t2, c_t3, c_t4, c_t5⟩ := hh
  have z_t := blt hb1 (auz (alz (b := w.heap.size) (by simp)))
  have hh := bc2 hb1 (al2 (b := w.heap.size + 1) (by simp))
  obtain ⟨c_h0, c_h1⟩ := hh
  have z_h := blt hb1 (alz (b := w.heap.size + 1) (by simp))
  have hB1 : Below w.heap.size w w1 := by (exact xbel)
  have HB1 := Lib.hid hB1
  obtain ⟨la, lc, rfl, -, -, -, -, -⟩ := row_of_owns ho1
  rw [HLN.out]
  clear hb1 hB1 ho1
  go_wp2_with fail
  refine (LV.out _ HB1.out).mono ?_
  rintro e w2 ⟨rfl, hb2⟩
  have hz_w2 := hb2.size
  try simp only [World.size_alloc, World.size_setCell] at hz_w2
  have hh := bc6 hb2 ⟨c_t0, c_t1, c_t2, c_t3, c_t4, c_t5⟩
  clear c_t0 c_t1 c_t2 c_t3 c_t4 c_t5
  obtain ⟨c_t0, c_t1, c_t2, c_t3, c_t4, c_t5⟩ := hh
  replace z_t := blt hb2 z_t
  have hh := bc2 hb2 ⟨c_h0, c_h1⟩
  clear c_h0 c_h1
  obtain ⟨c_h0, c_h1⟩ := hh
  replace z_h := blt hb2 z_h
  have HB2 := Lib.hid (below_via hb2 HB1.out HB1.out.size)
  have g1 : (lv != (L.length : Int)) = true := by simpa using hne
  clear hb2
  go_wp2
  go_ret
  exact ⟨rfl, HB2.out⟩
theorem linked_in (s : SlC) (wa ka va ca : Option Addr) (wc kc vc cc : Nat) (gs ps : List Int) (ga pa : Option Addr) (gc pc : Nat) (L : List Nat) (n : Nat) (e0 : Int) (b : Bool) (hk : s.ks.length = n) (hv : s.vs.length = n) (hn : n ≤ 65536) (hL : L.length ≤ 65536) (hLn : ∀ i, i < L.length → L.getD i 0 < n) (hpl : ps.length ≤ 65536) (hb : b = lnkL s ps L L.length) (w : World) (hin : SlIn w s ⟨wa, ka, va, ca, wc, kc, vc, cc⟩) (hp : IsRow .i64 w pa ps)
    (PL : Hid (∀ W, Below w.heap.size w W → Calls Tryz.prog 53 #[.agg #[.int .i64 s.seg, .slice wa s.ws.length wc, .slice ka s.ks.length kc, .slice va s.vs.length vc, .slice ca s.cs.length cc, .int .u64 s.laid]] W (FreshInts W (ints L)))) (LV : Hid (∀ W, Below w.heap.size w W → Calls Tryz.prog 64 #[.agg #[.slice ga gs.length gc, .slice pa ps.length pc]] W (AnsB W (.tuple #[.int .i64 L.length, .int .i64 e0])))) :
    Calls Tryz.prog 38 #[.agg #[.int .i64 s.seg, .slice wa s.ws.length wc, .slice ka s.ks.length kc, .slice va s.vs.length vc, .slice ca s.cs.length cc, .int .u64 s.laid], .agg #[.slice ga gs.length gc, .slice pa ps.length pc]] w (AnsB w (.bool b)) := by
  have HLN := Lib.hid (ints_length L)
  have HLG := Lib.hid (fun (i : Nat) (z : Int) (h : (ints L).getD i 0 = z) => (show z = ((L.getD i 0 : Nat) : Int) by rw [← h, getD_ints]))
  have HLT := Lib.hid hLn
  have HNL := Lib.hid hk
  have HNV := Lib.hid hv
  have HKS := Lib.hid hin.k
  have HVS := Lib.hid hin.v
  have HPS := Lib.hid hp
  have HBE := Lib.hid hb
  have HTS := Lib.hid (lnkL_succ s ps L)
  have HTF := Lib.hid (fun i (hi : i < L.length) h => lnkL_false (s := s) (ps := ps) (L := L) (k := i) (n := L.length) hi h)
  clear hLn hin hp hb hk hv
  go_enter Tryz.func38, Tryz.ntmps38
  go_wp2_with fail
  refine (PL.out _ (by (exact xbel))).mono ?_
  rintro e w1 ⟨v, rfl, ho1, hb1⟩
  have hz_w1 := hb1.size
  try simp only [World.size_alloc, World.size_setCell] at hz_w1
  have hh := bc6 hb1 (au6 (al6 (b := w.heap.size) (by simp)))
  obtain ⟨c_t0, c_t1, c_t2, c_t3, c_t4, c_t5⟩ := hh
  have z_t := blt hb1 (auz (alz (b := w.heap.size) (by simp)))
  have hh := bc2 hb1 (al2 (b := w.heap.size + 1) (by simp))
  obtain ⟨c_h0, c_h1⟩ := hh
  have z_h := blt hb1 (alz (b := w.heap.size + 1) (by simp))
  have hB1 : Below w.heap.size w w1 := by (exact xbel)
  have HB1 := Lib.hid hB1
  obtain ⟨la, lc, rfl, hi1, -, -, -, -⟩ := row_of_owns ho1
  rw [HLN.out]
  have HI1 := Lib.hid hi1
  clear hb1 hB1 ho1 hi1
  go_wp2_with fail
  refine (LV.out _ HB1.out).mono ?_
  rintro e w2 ⟨rfl, hb2⟩
  have hz_w2 := hb2.size
  try simp only [World.size_alloc, World.size_setCell] at hz_w2
  have hh := bc6 hb2 ⟨c_t0, c_t1, c_t2, c_t3, c_t4, c_t5⟩
  clear c_t0 c_t1 c_t2 c_t3 c_t4 c_t5
  obtain ⟨c_t0, c_t1, c_t2, c_t3, c_t4, c_t5⟩ := hh
  replace z_t := blt hb2 z_t
  have hh := bc2 hb2 ⟨c_h0, c_h1⟩
  clear c_h0 c_h1
  obtain ⟨c_h0, c_h1⟩ := hh
  replace z_h := blt hb2 z_h
  have HB2 := Lib.hid (below_via hb2 HB1.out HB1.out.size)
  have HI2 := Lib.hid (HI1.out.below hb2)
  have HKS2 := Lib.hid (HKS.out.below HB2.out)
  have HVS2 := Lib.hid (HVS.out.below HB2.out)
  have HPS2 := Lib.hid (HPS.out.below HB2.out)
  clear hb2
  obtain ⟨m, hm⟩ : ∃ m, L.length = m := ⟨_, rfl⟩
  rw [hm] at HLN HLT HBE HTF hL ⊢
  have g1 : ((m : Int) != (m : Int)) = false := by simp
  go_wp2
  go_loopg [8] m (fun gk iv wr => ∃ (i q : Nat), i + gk = m ∧ iv = .int .i64 i ∧ wr = w2.drewN q ∧ Hid (lnkL s ps L i = true))
  case atStart => exact ⟨0, 0, by omega, rfl, rfl, Lib.hid rfl⟩
  case round =>
    obtain ⟨i, q, hi, rfl, rfl, HT⟩ := hrel
    have HB3 := Lib.hid (below_drewN HB2.out q)
    by_cases hlt : i < m
    · obtain ⟨lb, lo, z0, rfl, hz0, hcl, -⟩ := HI2.out.get (i := i) (by rw [HLN.out]; exact hlt)
      have hj := HLG.out i z0 hz0.out
      have hjn := HLT.out i hlt
      have hts := HTS.out i
      have hfl := HTF.out i hlt
      generalize L.getD i 0 = j at *
      subst hj
      obtain ⟨kb, ko, x, rfl, hx, hck, -⟩ := HKS2.out.get (i := j) (by rw [HNL.out]; exact hjn)
      obtain ⟨vb, vo, y, rfl, hy, hcv, -⟩ := HVS2.out.get (i := j) (by rw [HNV.out]; exact hjn)
      have hjk : j < s.ks.length := by rw [HNL.out]; exact hjn
      have hjv : j < s.vs.length := by rw [HNV.out]; exact hjn
      have hat : lnkAt s ps j = (decide (y = 0) && (decide (0 ≤ x) && (decide (x < ps.length) && decide (ps.getD x.toNat 0 = (j : Int))))) := by rw [lnkAt, hx.out, hy.out]
      have HAT := Lib.hid hat
      have HTS2 := Lib.hid hts
      have HFL := Lib.hid (fun (h : lnkAt s ps j = false) => (show b = false by rw [HBE.out]; exact hfl h))
      clear hat hts hfl hx hy hz0
      by_cases h1 : y = 0
      · subst h1
        have e1 : ((0 : Int) != 0) = false := rfl
        by_cases h2 : 0 ≤ x
        · have e2 : decide (x < 0) = false := by simp; omega
          by_cases h3 : x < ps.length
          · have e3 : decide ((ps.length : Int) ≤ x) = false := by simp; omega
            obtain ⟨xn, rfl⟩ : ∃ xn : Nat, x = xn := ⟨x.toNat, by omega⟩
            rw [Int.toNat_natCast] at HAT
            have e3n : decide (ps.length ≤ xn) = false := by simp; omega
            obtain ⟨pb, po, z, rfl, hz, hcz, -⟩ := HPS2.out.get (i := xn) (by omega)
            rw [hz.out] at HAT
            by_cases h4 : z = (j : Int)
            · have e4 : (z != (j : Int)) = false := by simpa using h4
              have hat : lnkAt s ps j = true := by rw [HAT.out]; simp [h2, h4]; omega
              have HA2 := Lib.hid hat
              clear hat h4 hz HAT HFL
              go_wp2
              go_quiet (fail)
              go_wp2
              go_quiet (fail)
              go_wp2
              go_roundg (gk - 1)
              case measure => omega
              case rel => exact ⟨i + 1, _, by omega, by go_num, by first | rfl | simp, Lib.hid (by rw [HTS2.out, HT.out, HA2.out]; rfl)⟩
            · have e4 : (z != (j : Int)) = true := by simpa using h4
              have he8 := HFL.out (by rw [HAT.out]; simp [h4])
              subst he8
              clear hz HAT HFL h4
              go_wp2
              go_quiet (fail)
              go_wp2
              go_quiet (fail)
              go_wp2
              go_ret
              exact ⟨rfl, below_drewN (below_drewN HB3.out _) _⟩
          · have e3 : decide ((ps.length : Int) ≤ x) = true := by simp; omega
            have he8 := HFL.out (by rw [HAT.out]; simp [h3])
            subst he8
            clear HAT HFL
            go_wp2
            go_quiet (fail)
            go_wp2
            go_quiet (fail)
            go_wp2
            go_ret
            exact ⟨rfl, below_drewN (below_drewN HB3.out _) _⟩
        · have e2 : decide (x < 0) = true := by simp; omega
          have he8 := HFL.out (by rw [HAT.out]; simp [h2])
          subst he8
          clear HAT HFL
          go_wp2
          go_quiet (fail)
          go_wp2
          go_quiet (fail)
          go_wp2
          go_ret
          exact ⟨rfl, below_drewN (below_drewN HB3.out _) _⟩
      · have e1 : (y != 0) = true := by simpa using h1
        have he8 := HFL.out (by rw [HAT.out]; simp [h1])
        subst he8
        clear HAT HFL
        go_wp2
        go_quiet (fail)
        go_wp2
        go_quiet (fail)
        go_wp2
        go_ret
        exact ⟨rfl, below_drewN (below_drewN HB3.out _) _⟩
    · have him : i = m := by omega
      subst him
      have hbt := HBE.out.trans HT.out
      subst hbt
      go_wp2
      go_ret
      exact ⟨rfl, HB3.out⟩
theorem Check15_gap (c : Cfg) (s : SlC) (wa ka va ca : Option Addr) (wc kc vc cc : Nat) (gs ps : List Int) (mv : Int) (ga pa : Option Addr) (gc pc : Nat) (g : Int) (hg : g ≠ 0) (w : World) (GK : Hid (∀ W, Below w.heap.size w W → Calls Tryz.prog 36 #[.agg #[.int .u8 c.tag, .int .i64 c.most, .int .i64 c.seg, .int .i64 c.least, .int .i64 c.den, .int .i64 c.ll, .int .i64 c.rl, .int .i64 c.rh, .int .i64 c.lh], .agg #[.int .i64 s.seg, .slice wa s.ws.length wc, .slice ka s.ks.length kc, .slice va s.vs.length vc, .slice ca s.cs.length cc, .int .u64 s.laid]] W (AnsB W (.int .i64 g)))) :
    Calls Tryz.prog 16 #[.agg #[.int .u8 c.tag, .int .i64 c.most, .int .i64 c.seg, .int .i64 c.least, .int .i64 c.den, .int .i64 c.ll, .int .i64 c.rl, .int .i64 c.rh, .int .i64 c.lh, .int .i64 s.seg, .slice wa s.ws.length wc, .slice ka s.ks.length kc, .slice va s.vs.length vc, .slice ca s.cs.length cc, .int .u64 s.laid, .slice ga gs.length gc, .slice pa ps.length pc, .int .u64 mv]] w (AnsB w (.int .i64 g)) := by
  have g1 : (g != 0) = true := by simpa using hg
  go_enter Tryz.func16, Tryz.ntmps16
  go_wp2_with fail
  refine (GK.out _ (by (exact xbel))).mono ?_
  rintro e w1 ⟨rfl, hb1⟩
  have hz_w1 := hb1.size
  try simp only [World.size_alloc, World.size_setCell] at hz_w1
  have hh := bc18 hb1 (al18 (b := w.heap.size) (by simp))
  obtain ⟨c_t0, c_t1, c_t2, c_t3, c_t4, c_t5, c_t6, c_t7, c_t8, c_t9, c_t10, c_t11, c_t12, c_t13, c_t14, c_t15, c_t16, c_t17⟩ := hh
  have z_t := blt hb1 (alz (b := w.heap.size) (by simp))
  have hB1 : Below w.heap.size w w1 := by (exact xbel)
  have HB1 := Lib.hid hB1
  clear hb1 hB1
  go_wp2
  go_ret
  exact ⟨rfl, HB1.out⟩
theorem Check15_may (c : Cfg) (s : SlC) (wa ka va ca : Option Addr) (wc kc vc cc : Nat) (gs ps : List Int) (mv : Int) (ga pa : Option Addr) (gc pc : Nat) (w : World) (GK : Hid (∀ W, Below w.heap.size w W → Calls Tryz.prog 36 #[.agg #[.int .u8 c.tag, .int .i64 c.most, .int .i64 c.seg, .int .i64 c.least, .int .i64 c.den, .int .i64 c.ll, .int .i64 c.rl, .int .i64 c.rh, .int .i64 c.lh], .agg #[.int .i64 s.seg, .slice wa s.ws.length wc, .slice ka s.ks.length kc, .slice va s.vs.length vc, .slice ca s.cs.length cc, .int .u64 s.laid]] W (AnsB W (.int .i64 0)))) (MY : Hid (∀ W, Below w.heap.size w W → Calls Tryz.prog 37 #[.agg #[.slice ga gs.length gc, .slice pa ps.length pc]] W (AnsB W (.bool false)))) :
    Calls Tryz.prog 16 #[.agg #[.int .u8 c.tag, .int .i64 c.most, .int .i64 c.seg, .int .i64 c.least, .int .i64 c.den, .int .i64 c.ll, .int .i64 c.rl, .int .i64 c.rh, .int .i64 c.lh, .int .i64 s.seg, .slice wa s.ws.length wc, .slice ka s.ks.length kc, .slice va s.vs.length vc, .slice ca s.cs.length cc, .int .u64 s.laid, .slice ga gs.length gc, .slice pa ps.length pc, .int .u64 mv]] w (AnsB w (.int .i64 8)) := by
  go_enter Tryz.func16, Tryz.ntmps16
  go_wp2_with fail
  refine (GK.out _ (by (exact xbel))).mono ?_
  rintro e w1 ⟨rfl, hb1⟩
  have hz_w1 := hb1.size
  try simp only [World.size_alloc, World.size_setCell] at hz_w1
  have hh := bc18 hb1 (al18 (b := w.heap.size) (by simp))
  obtain ⟨c_t0, c_t1, c_t2, c_t3, c_t4, c_t5, c_t6, c_t7, c_t8, c_t9, c_t10, c_t11, c_t12, c_t13, c_t14, c_t15, c_t16, c_t17⟩ := hh
  have z_t := blt hb1 (alz (b := w.heap.size) (by simp))
  have hB1 : Below w.heap.size w w1 := by (exact xbel)
  have HB1 := Lib.hid hB1
  clear hb1 hB1
  go_wp2_with fail
  refine (MY.out _ HB1.out).mono ?_
  rintro e w2 ⟨rfl, hb2⟩
  have hz_w2 := hb2.size
  try simp only [World.size_alloc, World.size_setCell] at hz_w2
  have hh := bc18 hb2 ⟨c_t0, c_t1, c_t2, c_t3, c_t4, c_t5, c_t6, c_t7, c_t8, c_t9, c_t10, c_t11, c_t12, c_t13, c_t14, c_t15, c_t16, c_t17⟩
  clear c_t0 c_t1 c_t2 c_t3 c_t4 c_t5 c_t6 c_t7 c_t8 c_t9 c_t10 c_t11 c_t12 c_t13 c_t14 c_t15 c_t16 c_t17
  obtain ⟨c_t0, c_t1, c_t2, c_t3, c_t4, c_t5, c_t6, c_t7, c_t8, c_t9, c_t10, c_t11, c_t12, c_t13, c_t14, c_t15, c_t16, c_t17⟩ := hh
  replace z_t := blt hb2 z_t
  have HB2 := Lib.hid (below_via hb2 HB1.out HB1.out.size)
  clear hb2
  go_wp2
  go_ret
  exact ⟨rfl, HB2.out⟩
theorem Check15_yes (c : Cfg) (s : SlC) (wa ka va ca : Option Addr) (wc kc vc cc : Nat) (gs ps : List Int) (mv : Int) (ga pa : Option Addr) (gc pc : Nat) (w : World) (GK : Hid (∀ W, Below w.heap.size w W → Calls Tryz.prog 36 #[.agg #[.int .u8 c.tag, .int .i64 c.most, .int .i64 c.seg, .int .i64 c.least, .int .i64 c.den, .int .i64 c.ll, .int .i64 c.rl, .int .i64 c.rh, .int .i64 c.lh], .agg #[.int .i64 s.seg, .slice wa s.ws.length wc, .slice ka s.ks.length kc, .slice va s.vs.length vc, .slice ca s.cs.length cc, .int .u64 s.laid]] W (AnsB W (.int .i64 0)))) (MY : Hid (∀ W, Below w.heap.size w W → Calls Tryz.prog 37 #[.agg #[.slice ga gs.length gc, .slice pa ps.length pc]] W (AnsB W (.bool true)))) (LK : Hid (∀ W, Below w.heap.size w W → Calls Tryz.prog 38 #[.agg #[.int .i64 s.seg, .slice wa s.ws.length wc, .slice ka s.ks.length kc, .slice va s.vs.length vc, .slice ca s.cs.length cc, .int .u64 s.laid], .agg #[.slice ga gs.length gc, .slice pa ps.length pc]] W (AnsB W (.bool true)))) :
    Calls Tryz.prog 16 #[.agg #[.int .u8 c.tag, .int .i64 c.most, .int .i64 c.seg, .int .i64 c.least, .int .i64 c.den, .int .i64 c.ll, .int .i64 c.rl, .int .i64 c.rh, .int .i64 c.lh, .int .i64 s.seg, .slice wa s.ws.length wc, .slice ka s.ks.length kc, .slice va s.vs.length vc, .slice ca s.cs.length cc, .int .u64 s.laid, .slice ga gs.length gc, .slice pa ps.length pc, .int .u64 mv]] w (AnsB w (.int .i64 0)) := by
  go_enter Tryz.func16, Tryz.ntmps16
  go_wp2_with fail
  refine (GK.out _ (by (exact xbel))).mono ?_
  rintro e w1 ⟨rfl, hb1⟩
  have hz_w1 := hb1.size
  try simp only [World.size_alloc, World.size_setCell] at hz_w1
  have hh := bc18 hb1 (al18 (b := w.heap.size) (by simp))
  obtain ⟨c_t0, c_t1, c_t2, c_t3, c_t4, c_t5, c_t6, c_t7, c_t8, c_t9, c_t10, c_t11, c_t12, c_t13, c_t14, c_t15, c_t16, c_t17⟩ := hh
  have z_t := blt hb1 (alz (b := w.heap.size) (by simp))
  have hB1 : Below w.heap.size w w1 := by (exact xbel)
  have HB1 := Lib.hid hB1
  clear hb1 hB1
  go_wp2_with fail
  refine (MY.out _ HB1.out).mono ?_
  rintro e w2 ⟨rfl, hb2⟩
  have hz_w2 := hb2.size
  try simp only [World.size_alloc, World.size_setCell] at hz_w2
  have hh := bc18 hb2 ⟨c_t0, c_t1, c_t2, c_t3, c_t4, c_t5, c_t6, c_t7, c_t8, c_t9, c_t10, c_t11, c_t12, c_t13, c_t14, c_t15, c_t16, c_t17⟩
  clear c_t0 c_t1 c_t2 c_t3 c_t4 c_t5 c_t6 c_t7 c_t8 c_t9 c_t10 c_t11 c_t12 c_t13 c_t14 c_t15 c_t16 c_t17
  obtain ⟨c_t0, c_t1, c_t2, c_t3, c_t4, c_t5, c_t6, c_t7, c_t8, c_t9, c_t10, c_t11, c_t12, c_t13, c_t14, c_t15, c_t16, c_t17⟩ := hh
  replace z_t := blt hb2 z_t
  have HB2 := Lib.hid (below_via hb2 HB1.out HB1.out.size)
  clear hb2
  go_wp2_with fail
  refine (LK.out _ HB2.out).mono ?_
  rintro e w3 ⟨rfl, hb3⟩
  have hz_w3 := hb3.size
  try simp only [World.size_alloc, World.size_setCell] at hz_w3
  have hh := bc18 hb3 ⟨c_t0, c_t1, c_t2, c_t3, c_t4, c_t5, c_t6, c_t7, c_t8, c_t9, c_t10, c_t11, c_t12, c_t13, c_t14, c_t15, c_t16, c_t17⟩
  clear c_t0 c_t1 c_t2 c_t3 c_t4 c_t5 c_t6 c_t7 c_t8 c_t9 c_t10 c_t11 c_t12 c_t13 c_t14 c_t15 c_t16 c_t17
  obtain ⟨c_t0, c_t1, c_t2, c_t3, c_t4, c_t5, c_t6, c_t7, c_t8, c_t9, c_t10, c_t11, c_t12, c_t13, c_t14, c_t15, c_t16, c_t17⟩ := hh
  replace z_t := blt hb3 z_t
  have HB3 := Lib.hid (below_via hb3 HB2.out HB2.out.size)
  clear hb3
  go_wp2
  go_ret
  exact ⟨rfl, HB3.out⟩
theorem Check15_no (c : Cfg) (s : SlC) (wa ka va ca : Option Addr) (wc kc vc cc : Nat) (gs ps : List Int) (mv : Int) (ga pa : Option Addr) (gc pc : Nat) (w : World) (GK : Hid (∀ W, Below w.heap.size w W → Calls Tryz.prog 36 #[.agg #[.int .u8 c.tag, .int .i64 c.most, .int .i64 c.seg, .int .i64 c.least, .int .i64 c.den, .int .i64 c.ll, .int .i64 c.rl, .int .i64 c.rh, .int .i64 c.lh], .agg #[.int .i64 s.seg, .slice wa s.ws.length wc, .slice ka s.ks.length kc, .slice va s.vs.length vc, .slice ca s.cs.length cc, .int .u64 s.laid]] W (AnsB W (.int .i64 0)))) (MY : Hid (∀ W, Below w.heap.size w W → Calls Tryz.prog 37 #[.agg #[.slice ga gs.length gc, .slice pa ps.length pc]] W (AnsB W (.bool true)))) (LK : Hid (∀ W, Below w.heap.size w W → Calls Tryz.prog 38 #[.agg #[.int .i64 s.seg, .slice wa s.ws.length wc, .slice ka s.ks.length kc, .slice va s.vs.length vc, .slice ca s.cs.length cc, .int .u64 s.laid], .agg #[.slice ga gs.length gc, .slice pa ps.length pc]] W (AnsB W (.bool false)))) :
    Calls Tryz.prog 16 #[.agg #[.int .u8 c.tag, .int .i64 c.most, .int .i64 c.seg, .int .i64 c.least, .int .i64 c.den, .int .i64 c.ll, .int .i64 c.rl, .int .i64 c.rh, .int .i64 c.lh, .int .i64 s.seg, .slice wa s.ws.length wc, .slice ka s.ks.length kc, .slice va s.vs.length vc, .slice ca s.cs.length cc, .int .u64 s.laid, .slice ga gs.length gc, .slice pa ps.length pc, .int .u64 mv]] w (AnsB w (.int .i64 8)) := by
  go_enter Tryz.func16, Tryz.ntmps16
  go_wp2_with fail
  refine (GK.out _ (by (exact xbel))).mono ?_
  rintro e w1 ⟨rfl, hb1⟩
  have hz_w1 := hb1.size
  try simp only [World.size_alloc, World.size_setCell] at hz_w1
  have hh := bc18 hb1 (al18 (b := w.heap.size) (by simp))
  obtain ⟨c_t0, c_t1, c_t2, c_t3, c_t4, c_t5, c_t6, c_t7, c_t8, c_t9, c_t10, c_t11, c_t12, c_t13, c_t14, c_t15, c_t16, c_t17⟩ := hh
  have z_t := blt hb1 (alz (b := w.heap.size) (by simp))
  have hB1 : Below w.heap.size w w1 := by (exact xbel)
  have HB1 := Lib.hid hB1
  clear hb1 hB1
  go_wp2_with fail
  refine (MY.out _ HB1.out).mono ?_
  rintro e w2 ⟨rfl, hb2⟩
  have hz_w2 := hb2.size
  try simp only [World.size_alloc, World.size_setCell] at hz_w2
  have hh := bc18 hb2 ⟨c_t0, c_t1, c_t2, c_t3, c_t4, c_t5, c_t6, c_t7, c_t8, c_t9, c_t10, c_t11, c_t12, c_t13, c_t14, c_t15, c_t16, c_t17⟩
  clear c_t0 c_t1 c_t2 c_t3 c_t4 c_t5 c_t6 c_t7 c_t8 c_t9 c_t10 c_t11 c_t12 c_t13 c_t14 c_t15 c_t16 c_t17
  obtain ⟨c_t0, c_t1, c_t2, c_t3, c_t4, c_t5, c_t6, c_t7, c_t8, c_t9, c_t10, c_t11, c_t12, c_t13, c_t14, c_t15, c_t16, c_t17⟩ := hh
  replace z_t := blt hb2 z_t
  have HB2 := Lib.hid (below_via hb2 HB1.out HB1.out.size)
  clear hb2
  go_wp2_with fail
  refine (LK.out _ HB2.out).mono ?_
  rintro e w3 ⟨rfl, hb3⟩
  have hz_w3 := hb3.size
  try simp only [World.size_alloc, World.size_setCell] at hz_w3
  have hh := bc18 hb3 ⟨c_t0, c_t1, c_t2, c_t3, c_t4, c_t5, c_t6, c_t7, c_t8, c_t9, c_t10, c_t11, c_t12, c_t13, c_t14, c_t15, c_t16, c_t17⟩
  clear c_t0 c_t1 c_t2 c_t3 c_t4 c_t5 c_t6 c_t7 c_t8 c_t9 c_t10 c_t11 c_t12 c_t13 c_t14 c_t15 c_t16 c_t17
  obtain ⟨c_t0, c_t1, c_t2, c_t3, c_t4, c_t5, c_t6, c_t7, c_t8, c_t9, c_t10, c_t11, c_t12, c_t13, c_t14, c_t15, c_t16, c_t17⟩ := hh
  replace z_t := blt hb3 z_t
  have HB3 := Lib.hid (below_via hb3 HB2.out HB2.out.size)
  clear hb3
  go_wp2
  go_ret
  exact ⟨rfl, HB3.out⟩
end Go.Proofs.YtjhpblejlchhjaaGreat

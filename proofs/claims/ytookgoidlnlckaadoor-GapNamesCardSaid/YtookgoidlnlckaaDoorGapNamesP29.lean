/- Merged: PmNw, GapNm, EffFact, Eff6. -/
import Derived.Test.YtookgoidlnlckaaDoorGapNamesP28
import Derived.Test.YtookgoidlnlckaaDoorGapNamesP3
import Derived.Test.YtookgoidlnlckaaDoorGapNamesP22
import Derived.Test.YtookgoidlnlckaaDoorGapNamesP7
import Derived.Test.YtookgoidlnlckaaDoorGapNamesP23
import Derived.Test.YtookgoidlnlckaaDoorGapNamesP26
import Derived.Test.YtookgoidlnlckaaDoorGapNamesP13
import Derived.Test.YtookgoidlnlckaaDoorGapNamesP2
namespace Go.Proofs.YtookgoidlnlckaaDoor
set_option maxRecDepth 100000
set_option maxHeartbeats 40000000
set_option linter.unusedVariables false
set_option linter.unusedSimpArgs false
section
open Go.RowKit
theorem least_nums {c : Cfg} (h : cfMay c = true) : ∃ S M : Nat, c.seg = S ∧ c.least = ((S * M : Nat) : Int) ∧ 4 ≤ S ∧ S ≤ 64 ∧ 1 ≤ M ∧ S * M ≤ 65536 ∧ pwB (S : Int) = true ∧ pwB (M : Int) = true := by
 have f := cfHead_facts (cfMay_head h)
 obtain ⟨s1, s2, a, ea⟩ := powB_nat f.2.2.2.2.1
 obtain ⟨l1, l2, b, eb⟩ := powB_nat f.2.2.2.2.2.1
 have hab : a ≤ b := (Nat.pow_le_pow_iff_right (a := 2) xo).1 xo
 have e : 2 ^ b = 2 ^ a * 2 ^ (b - a) := by rw [← Nat.pow_add, show a + (b - a) = b by omega]
 exact ⟨2 ^ a, 2 ^ (b - a), ea, by rw [eb, e], by omega, by omega, Nat.two_pow_pos _, by rw [← e]; omega, pwB_two _, pwB_two _⟩
def emptyC (c : Cfg) : SlC := emptyL c.seg.toNat (c.least.toNat / c.seg.toNat) 0
def newC (c : Cfg) : SlC := if cfMay c = true then emptyC c else nilC
theorem emptyC_eq {c : Cfg} {S M : Nat} (h1 : c.seg = S) (h2 : c.least = ((S * M : Nat) : Int)) (h4 : 4 ≤ S) : emptyC c = emptyL S M 0 := by
 rw [emptyC, h1, h2, Int.toNat_natCast, Int.toNat_natCast, Nat.mul_div_cancel_left _ xo]
theorem newSl_ok {c : Cfg} (h : cfMay c = true) (w : World) : Calls Tryd.prog 44 #[.int .i64 c.seg, .int .i64 c.least] w (FreshSl2 w (emptyC c) (.int .i64 0)) := by
 obtain ⟨S, M, h1, h2, h4, h6, hM, hm, pS, pM⟩ := least_nums h
 obtain ⟨q1, q2, q3, q4⟩ := new_nums (M := M) h4 hm
 rw [emptyC_eq h1 h2 h4, h1, h2]
 have ge := emptyL_gd h4 h6 hM hm 0
 have gm := gd_may ge pS pM rfl
 refine slNew_core w S (S * M) ((S * M + 63) / 64) M h4 hm h6 q1 q2 xo q4 (hid fun W' => ?_)
 have := fits_ok (S : Int) ((S * M : Nat) : Int) W'
 rwa [gd_fit ge gm] at this
theorem gapNew_err (c : Cfg) (e : Int) (he : e ≠ 0) (w : World) (CK : Hid (∀ W, Calls Tryd.prog 43 #[.agg #[.int .u8 c.tag, .int .i64 c.most, .int .i64 c.seg, .int .i64 c.least, .int .i64 c.den, .int .i64 c.ll, .int .i64 c.rl, .int .i64 c.rh, .int .i64 c.lh]] W (AnsB W (.int .i64 e)))) :
    Calls Tryd.prog 15 #[.agg #[.int .u8 c.tag, .int .i64 c.most, .int .i64 c.seg, .int .i64 c.least, .int .i64 c.den, .int .i64 c.ll, .int .i64 c.rl, .int .i64 c.rh, .int .i64 c.lh]] w (FreshSl2 w nilC (.int .i64 e)) := by
 have ge : (e != 0) = true := by simpa using he
 clear he
 go_enter Tryd.func15, Tryd.ntmps15
 go_wp2_with fail
 refine (CK.out _).mono ?_
 rintro e w1 ⟨rfl, hb1⟩
 have hz_w1 := hb1.size
 try simp only [World.size_alloc, World.size_setCell] at hz_w1
 have hh := bc9 hb1 (au9 (al9 (b := w.heap.size) (by simp)))
 obtain ⟨c_t0, c_t1, c_t2, c_t3, c_t4, c_t5, c_t6, c_t7, c_t8⟩ := hh
 have z_t := blt hb1 (auz (alz (b := w.heap.size) (by simp)))
 have hh := bc6 hb1 (al6 (b := w.heap.size + 1) (by simp))
 obtain ⟨c_r0, c_r1, c_r2, c_r3, c_r4, c_r5⟩ := hh
 have hh := bf6 hb1 (alz (b := w.heap.size + 1) (by simp)) (alf6 (b := w.heap.size + 1) (by simp))
 obtain ⟨f_r0, f_r1, f_r2, f_r3, f_r4, f_r5⟩ := hh
 have z_r := blt hb1 (alz (b := w.heap.size + 1) (by simp))
 have hB1 : Below w.heap.size w w1 := xbel
 go_wp2
 have HC := hid (six_some ⟨c_r0, c_r1, c_r2, c_r3, c_r4, c_r5⟩)
 refine bodyPost_ret (results_ct rfl rfl (run_loadVar_many _ Tryd.underlying29 rfl xk (setCs_all (W := w1) (b := w.heap.size + 1) (l := [.int .i64 0, .slice none 0 0, .slice none 0 0, .slice none 0 0, .slice none 0 0, .int .u64 0]) HC.out))) rfl ⟨_, _, _, _, rfl, ?_, ?_, ?_, ?_, ?_⟩
 · exact World.ownsRow_nil _ _ _ _
 · exact World.ownsRow_nil _ _ _ _
 · exact World.ownsRow_nil _ _ _ _
 · exact World.ownsRow_nil _ _ _ _
 · exact setCs_below (b := w.heap.size + 1) xo [.int .i64 0, .slice none 0 0, .slice none 0 0, .slice none 0 0, .slice none 0 0, .int .u64 0] _ 0 hB1
theorem gapNew_in (c : Cfg) (d : SlC) (w : World) (CK : Hid (∀ W, Calls Tryd.prog 43 #[.agg #[.int .u8 c.tag, .int .i64 c.most, .int .i64 c.seg, .int .i64 c.least, .int .i64 c.den, .int .i64 c.ll, .int .i64 c.rl, .int .i64 c.rh, .int .i64 c.lh]] W (AnsB W (.int .i64 0)))) (NW : Hid (∀ W, Calls Tryd.prog 44 #[.int .i64 c.seg, .int .i64 c.least] W (FreshSl2 W d (.int .i64 0)))) :
    Calls Tryd.prog 15 #[.agg #[.int .u8 c.tag, .int .i64 c.most, .int .i64 c.seg, .int .i64 c.least, .int .i64 c.den, .int .i64 c.ll, .int .i64 c.rl, .int .i64 c.rh, .int .i64 c.lh]] w (FreshSl2 w d (.int .i64 0)) := by
 go_enter Tryd.func15, Tryd.ntmps15
 go_wp2_with fail
 refine (CK.out _).mono ?_
 rintro e w1 ⟨rfl, hb1⟩
 have hz_w1 := hb1.size
 try simp only [World.size_alloc, World.size_setCell] at hz_w1
 have hh := bc9 hb1 (au9 (al9 (b := w.heap.size) (by simp)))
 obtain ⟨c_t0, c_t1, c_t2, c_t3, c_t4, c_t5, c_t6, c_t7, c_t8⟩ := hh
 have z_t := blt hb1 (auz (alz (b := w.heap.size) (by simp)))
 have hh := bc6 hb1 (al6 (b := w.heap.size + 1) (by simp))
 obtain ⟨c_r0, c_r1, c_r2, c_r3, c_r4, c_r5⟩ := hh
 have hh := bf6 hb1 (alz (b := w.heap.size + 1) (by simp)) (alf6 (b := w.heap.size + 1) (by simp))
 obtain ⟨f_r0, f_r1, f_r2, f_r3, f_r4, f_r5⟩ := hh
 have z_r := blt hb1 (alz (b := w.heap.size + 1) (by simp))
 have hB1 : Below w.heap.size w w1 := xbel
 have hz1 := z_r
 go_wp2_with fail
 refine (NW.out _).mono ?_
 rintro e w2 ⟨v1, v2, v3, v4, rfl, p1, p2, p3, p4, hb2⟩
 have hz_w2 := hb2.size
 try simp only [World.size_alloc, World.size_setCell] at hz_w2
 have hh := bc9 hb2 ⟨c_t0, c_t1, c_t2, c_t3, c_t4, c_t5, c_t6, c_t7, c_t8⟩
 clear c_t0 c_t1 c_t2 c_t3 c_t4 c_t5 c_t6 c_t7 c_t8
 obtain ⟨c_t0, c_t1, c_t2, c_t3, c_t4, c_t5, c_t6, c_t7, c_t8⟩ := hh
 replace z_t := blt hb2 z_t
 have hh := bc6 hb2 ⟨c_r0, c_r1, c_r2, c_r3, c_r4, c_r5⟩
 clear c_r0 c_r1 c_r2 c_r3 c_r4 c_r5
 obtain ⟨c_r0, c_r1, c_r2, c_r3, c_r4, c_r5⟩ := hh
 have hh := bf6 hb2 z_r ⟨f_r0, f_r1, f_r2, f_r3, f_r4, f_r5⟩
 clear f_r0 f_r1 f_r2 f_r3 f_r4 f_r5
 obtain ⟨f_r0, f_r1, f_r2, f_r3, f_r4, f_r5⟩ := hh
 replace z_r := blt hb2 z_r
 have hB2 := below_via hb2 hB1 hB1.size
 obtain ⟨a1, k1, rfl, -, -, -, -, -⟩ := row_of_owns p1
 obtain ⟨a2, k2, rfl, -, -, -, -, -⟩ := row_of_owns p2
 obtain ⟨a3, k3, rfl, -, -, -, -, -⟩ := row_of_owns p3
 obtain ⟨a4, k4, rfl, -, -, -, -, -⟩ := row_of_owns p4
 have HP := hid (And.intro p1 (And.intro p2 (And.intro p3 p4)))
 clear p1 p2 p3 p4
 go_wp2
 have HC := hid (six_some ⟨c_r0, c_r1, c_r2, c_r3, c_r4, c_r5⟩)
 refine bodyPost_ret (results_ct rfl rfl (run_loadVar_many _ Tryd.underlying29 rfl xk (setCs_all (W := w2) (b := w.heap.size + 1) (l := [.int .i64 d.seg, .slice a1 d.ws.length k1, .slice a2 d.ks.length k2, .slice a3 d.vs.length k3, .slice a4 d.cs.length k4, .int .u64 d.laid]) HC.out))) rfl ⟨_, _, _, _, rfl, ?_, ?_, ?_, ?_, ?_⟩
 · exact owns_base (setCs_owns (b := w.heap.size + 1) (i := 0) hz1 [.int .i64 d.seg, .slice a1 d.ws.length k1, .slice a2 d.ks.length k2, .slice a3 d.vs.length k3, .slice a4 d.cs.length k4, .int .u64 d.laid] HP.out.1) xo
 · exact owns_base (setCs_owns (b := w.heap.size + 1) (i := 0) hz1 [.int .i64 d.seg, .slice a1 d.ws.length k1, .slice a2 d.ks.length k2, .slice a3 d.vs.length k3, .slice a4 d.cs.length k4, .int .u64 d.laid] HP.out.2.1) xo
 · exact owns_base (setCs_owns (b := w.heap.size + 1) (i := 0) hz1 [.int .i64 d.seg, .slice a1 d.ws.length k1, .slice a2 d.ks.length k2, .slice a3 d.vs.length k3, .slice a4 d.cs.length k4, .int .u64 d.laid] HP.out.2.2.1) xo
 · exact owns_base (setCs_owns (b := w.heap.size + 1) (i := 0) hz1 [.int .i64 d.seg, .slice a1 d.ws.length k1, .slice a2 d.ks.length k2, .slice a3 d.vs.length k3, .slice a4 d.cs.length k4, .int .u64 d.laid] HP.out.2.2.2) xo
 · exact setCs_below (b := w.heap.size + 1) xo [.int .i64 d.seg, .slice a1 d.ws.length k1, .slice a2 d.ks.length k2, .slice a3 d.vs.length k3, .slice a4 d.cs.length k4, .int .u64 d.laid] _ 0 hB2
theorem gapNew_ok (c : Cfg) (w : World) : Calls Tryd.prog 15 #[.agg #[.int .u8 c.tag, .int .i64 c.most, .int .i64 c.seg, .int .i64 c.least, .int .i64 c.den, .int .i64 c.ll, .int .i64 c.rl, .int .i64 c.rh, .int .i64 c.lh]] w (FreshSl2 w (newC c) (.int .i64 (cfE c))) := by
 cases h : cfMay c with
 | true =>
  have e : cfE c = 0 := cfE_ok h
  rw [newC, if_pos h, e]
  exact gapNew_in c (emptyC c) w (hid fun W => e ▸ Check5_ok c W) (hid fun W => newSl_ok h W)
 | false =>
  have e : cfE c = 50 := by simp [cfE, h]
  rw [newC, if_neg (by simp [h]), e]
  exact gapNew_err c 50 (by decide) w (hid fun W => e ▸ Check5_ok c W)
end
section
open Go.RowKit
theorem put_zero {c : Cfg} {s : SlC} {k : Int} (h : putE c s k = 0) : gapE c s = 0 ∧ 0 ≤ k ∧ k ≤ manyC s ∧ (manyC s : Int) ≠ c.most := by
 unfold putE at h
 by_cases h0 : gapE c s = 0
 · rw [if_pos h0] at h
   by_cases h1 : k < 0 ∨ (manyC s : Int) < k
   · rw [if_pos h1] at h; omega
   · rw [if_neg h1] at h
     by_cases h2 : (manyC s : Int) = c.most
     · rw [if_pos h2] at h; omega
     · exact ⟨h0, by omega, by omega, h2⟩
 · rw [if_neg h0] at h; exact absurd h h0
theorem take_zero {c : Cfg} {s : SlC} {k : Int} (h : takE c s k = 0) : gapE c s = 0 ∧ 0 ≤ k ∧ k < manyC s := by
 unfold takE at h
 by_cases h0 : gapE c s = 0
 · rw [if_pos h0] at h
   by_cases h1 : k < 0 ∨ (manyC s : Int) ≤ k
   · rw [if_pos h1] at h; omega
   · exact ⟨h0, by omega, by omega⟩
 · rw [if_neg h0] at h; exact absurd h h0
theorem gd_nums {d : SlC} {S n lc : Nat} (g : SlGd d S ((n + 63) / 64) n lc) : d.ws.length ≤ 1000000 ∧ d.ks.length ≤ 1000000 ∧ d.vs.length ≤ 1000000 ∧ d.cs.length ≤ 1000000 ∧ U64s d.ws := by
 have h1 := g.elw
 have h2 := g.elk
 have h3 := g.elv
 have h4 := g.elc
 have h5 := g.cn
 have h6 := g.s4
 have h7 := g.nm
 have h9 : 1 * lc ≤ S * lc := Nat.mul_le_mul_right _ xo
 exact ⟨by omega, by omega, by omega, by omega, g.u⟩
theorem nil_nums : nilC.ws.length ≤ 1000000 ∧ nilC.ks.length ≤ 1000000 ∧ nilC.vs.length ≤ 1000000 ∧ nilC.cs.length ≤ 1000000 ∧ U64s nilC.ws :=
  ⟨Nat.zero_le _, Nat.zero_le _, Nat.zero_le _, Nat.zero_le _, fun x hx => by cases hx⟩
theorem put_gd {c : Cfg} {s : SlC} (hu : U64s s.ws) {k : Int} (p : Int × Int) (h : putE c s k = 0) : ∃ S n lc, SlGd (putC c s k p) S ((n + 63) / 64) n lc := by
 obtain ⟨h0, k0, k1, k2⟩ := put_zero h
 obtain ⟨hc, a, H, kn, hs, hmost, hden⟩ := gap_zero h0
 rw [sum_many kn hu] at hmost
 obtain ⟨g, hlw⟩ := gapN_gd kn hu
 obtain ⟨p1, p2, p3, p4, p5, p6⟩ := kn.pows
 obtain ⟨n, rfl⟩ : ∃ n : Nat, k = n := ⟨k.toNat, by omega⟩
 have hn : n ≤ manyC s := xo
 have hat := homeC_lt p5 n
 rw [putC, if_pos h, sgL_eq kn.cap.seg, kn.cap.hgt, Int.toNat_natCast]
 unfold putN
 by_cases ht : topI (ovB c s a H (homeC s n)) (H + 1) = H
 · rw [if_pos ht]
   have hLn : (prs s 0 s.ks.length).length = manyC s := prs_length _ _ _
   have hil : (insL (prs s 0 s.ks.length) n p).length = manyC s + 1 := by rw [insL_length (by rw [hLn]; exact hn), hLn]
   have hcap := cap_facts kn (n := manyC s + 1) xo
   exact ⟨_, _, _, (emptyL_gd p1 p2 hcap.2.2.1 hcap.2.2.2.1 s.laid).sp (Nat.zero_le _) (Nat.le_refl _) (by rw [hil]; have := hcap.2.2.2.2.1; omega)⟩
 · rw [if_neg ht]
   obtain ⟨h', eh, hh, hroom⟩ := put_room kn hu hat ht
   have hht : (topI (ovB c s a H (homeC s n)) (H + 1) + 1).toNat = h' := xo
   simp only [hht]
   have b := wnd_bd (a := a) (at_ := homeC s n) hh (by rw [← kn.nk]; exact hat)
   have hhi : (wnd a h' (homeC s n) + 1) * 2 ^ (a + h') ≤ s.ks.length := by rw [kn.nk]; exact b.2.2.2
   obtain ⟨q1, q2⟩ := home_in p5 hn b.2.1 b.2.2.1 hhi
   have hil := insL_length q2 p
   have hpl := prs_length s (wnd a h' (homeC s n) * 2 ^ (a + h')) ((wnd a h' (homeC s n) + 1) * 2 ^ (a + h'))
   have eww : (wnd a h' (homeC s n) + 1) * 2 ^ (a + h') = wnd a h' (homeC s n) * 2 ^ (a + h') + 2 ^ (a + h') := Nat.succ_mul _ _
   exact ⟨_, _, _, g.sp xo hhi (by rw [hil, hpl]; omega)⟩
theorem put_nums (c : Cfg) (s : SlC) (hu : U64s s.ws) (k : Int) (p : Int × Int) : (putC c s k p).ws.length ≤ 1000000 ∧ (putC c s k p).ks.length ≤ 1000000 ∧ (putC c s k p).vs.length ≤ 1000000 ∧ (putC c s k p).cs.length ≤ 1000000 ∧ U64s (putC c s k p).ws := by
 by_cases h : putE c s k = 0
 · obtain ⟨_, _, _, g⟩ := put_gd hu p h
   exact gd_nums g
 · rw [putC, if_neg h]; exact nil_nums
theorem take_gd {c : Cfg} {s : SlC} (hu : U64s s.ws) {k : Int} (h : takE c s k = 0) : ∃ S n lc, SlGd (takC c s k) S ((n + 63) / 64) n lc := by
 obtain ⟨h0, k0, k1⟩ := take_zero h
 obtain ⟨hc, a, H, kn, hs, hmost, hden⟩ := gap_zero h0
 obtain ⟨n, rfl⟩ : ∃ n : Nat, k = n := ⟨k.toNat, by omega⟩
 have hn : n < (plsW s.ws 0 s.ks.length).length := by rw [plsW_length]; unfold manyC at k1; omega
 obtain ⟨hr, hbit, hat⟩ := pls_rank hn
 rw [takC, if_pos h, sgL_eq kn.cap.seg, kn.cap.hgt, Int.toNat_natCast]
 unfold takN
 generalize (plsW s.ws 0 s.ks.length).getD n 0 = at_ at *
 obtain ⟨kz, gz, zl, t1, t2, hzm⟩ := take_in kn hu hat hbit
 dsimp only
 generalize tkC s at_ = z at *
 obtain ⟨z1, z2, z3, z4, z5, z6⟩ := kz.pows
 by_cases ht1 : topI (unfB c z a H at_) (H + 1) = -1
 · rw [if_pos ht1]; exact ⟨_, _, _, gz⟩
 · rw [if_neg ht1]
   by_cases ht : topI (unfB c z a H at_) (H + 1) = H
   · rw [if_pos ht]
     have hLn : (prs z 0 z.ks.length).length = manyC z := prs_length _ _ _
     have hcn : manyC z ≤ z.ks.length := by have := cntW_le z.ws 0 z.ks.length; unfold manyC; omega
     obtain ⟨H', n1, n2, n3, n4⟩ := nar_ok (m := manyC z) 20 z.ks.length a H kz.cap xo xo
     have hnar : narF c (manyC z) 20 z.ks.length = ((2 ^ a * 2 ^ H' : Nat) : Int) := n2.all
     have hbig := n2.big
     have hdiv : (narF c (manyC z) 20 z.ks.length).toNat / 2 ^ a = 2 ^ H' := by rw [hnar, Int.toNat_natCast, Nat.mul_div_cancel_left _ xo]
     rw [hdiv]
     have hle : manyC z ≤ 2 ^ a * 2 ^ H' := by rw [hnar] at n3; omega
     exact ⟨_, _, _, (emptyL_gd z1 z2 (Nat.two_pow_pos H') hbig z.laid).sp (Nat.zero_le _) (Nat.le_refl _) (by rw [hLn]; omega)⟩
   · rw [if_neg ht]
     obtain ⟨h', eh, hh⟩ : ∃ h' : Nat, topI (unfB c z a H at_) (H + 1) + 1 = h' ∧ h' ≤ H := by
      have := topI_bd (unfB c z a H at_) (H + 1)
      exact ⟨(topI (unfB c z a H at_) (H + 1) + 1).toNat, by omega, by omega⟩
     have hht : (topI (unfB c z a H at_) (H + 1) + 1).toNat = h' := xo
     simp only [hht]
     have b := wnd_bd (a := a) (at_ := at_) hh (by rw [← kz.nk]; omega)
     have hhi : (wnd a h' at_ + 1) * 2 ^ (a + h') ≤ s.ks.length := by rw [← zl, kz.nk]; exact b.2.2.2
     have eww : (wnd a h' at_ + 1) * 2 ^ (a + h') = wnd a h' at_ * 2 ^ (a + h') + 2 ^ (a + h') := Nat.succ_mul _ _
     have hpl := prs_length z (wnd a h' at_ * 2 ^ (a + h')) ((wnd a h' at_ + 1) * 2 ^ (a + h'))
     have hc2 := cntW_le z.ws (wnd a h' at_ * 2 ^ (a + h')) ((wnd a h' at_ + 1) * 2 ^ (a + h'))
     exact ⟨_, _, _, gz.sp xo hhi (by rw [hpl]; exact hc2)⟩
theorem take_nums (c : Cfg) (s : SlC) (hu : U64s s.ws) (k : Int) : (takC c s k).ws.length ≤ 1000000 ∧ (takC c s k).ks.length ≤ 1000000 ∧ (takC c s k).vs.length ≤ 1000000 ∧ (takC c s k).cs.length ≤ 1000000 ∧ U64s (takC c s k).ws := by
 by_cases h : takE c s k = 0
 · obtain ⟨_, _, _, g⟩ := take_gd hu h
   exact gd_nums g
 · rw [takC, if_neg h]; exact nil_nums
theorem new_nums9 (c : Cfg) : (newC c).ws.length ≤ 1000000 ∧ (newC c).ks.length ≤ 1000000 ∧ (newC c).vs.length ≤ 1000000 ∧ (newC c).cs.length ≤ 1000000 ∧ U64s (newC c).ws := by
 unfold newC
 split
 · rename_i h
   obtain ⟨S, M, h1, h2, h4, h6, hM, hm, -, -⟩ := least_nums h
   rw [emptyC_eq h1 h2 h4]
   exact gd_nums (emptyL_gd h4 h6 hM hm 0)
 · exact nil_nums
end
section
open Go.RowKit
def StT (t : TypeId) (w w' : World) : Prop := ∃ (b : Nat) (cs cs' : Array Value), w.heap[b]? = some (Obj.cells cs t (0, 0)) ∧ w'.heap[b]? = some (Obj.cells cs' t (0, 0)) ∧ cs'.size = cs.size ∧ w'.heap.size = w.heap.size ∧ ∀ q, q ≠ b → w'.heap[q]? = w.heap[q]?
theorem owns_stT {t e : TypeId} {w w' : World} {B s n : Nat} {v : Value} {xs : List Value} (hs : StT t w w') (hne : e ≠ t) (h : w.ownsRow B e s v n xs) : w'.ownsRow B e s v n xs := by
 obtain ⟨b, cs, cs', h1, h2, h3, h4, h5⟩ := hs
 exact owns_heap h fun k hk => h5 k (row_apart h1 h hne k hk)
structure FactE (t : TypeId) extends FactR RB where
 bears : ∀ v w w', StT t w w' → holds v w → holds v w'
def FactE.any (t : TypeId) : FactE t := ⟨FactR.any RB, fun _ _ _ _ _ => trivial⟩
def FactE.is {t : TypeId} (x : Value) : FactE t := ⟨FactR.is x, fun _ _ _ _ h => h⟩
def FactE.box (base : Nat) (t : TypeId) (n : Nat) : FactE t :=
  ⟨FactR.box base t n, fun v w w' h ⟨b, cs, e, hb, hh, hn⟩ => by
   obtain ⟨b', c0, c1, h1, h2, h3, h4, h5⟩ := h
   by_cases eb : b = b'
   · subst eb
     rw [h1] at hh
     cases hh
     exact ⟨b, c1, e, hb, h2, h3.trans hn⟩
   · exact ⟨b, cs, e, hb, (h5 b eb).trans hh, hn⟩⟩
def effAt {t : TypeId} (m : Nat) (ds : List Nat) (fs : List (FactE t)) (X : (Nat → Value) → World → Prop) (k : Nat) (u : Nat → Value) (w : World) : Prop := (fs.getD k (FactE.any t)).holds (u (ds.getD k 0)) w ∧ (k = m → X u w)
def effExt (t : TypeId) (m i : Nat) (w w' : World) : Prop := (i ≠ m → RB w w') ∧ (i = m → StT t w w')
theorem effAt_stays {t : TypeId} {m : Nat} {ds : List Nat} {fs : List (FactE t)} {X : (Nat → Value) → World → Prop} (hX : ∀ u w w', RB w w' → X u w → X u w') : ∀ i k u w w', k ≠ i → effExt t m i w w' → effAt m ds fs X k u w → effAt m ds fs X k u w' := by
 intro i k u w w' hne hE hG
 by_cases h : i = m
 · exact ⟨(fs.getD k (FactE.any t)).bears _ _ _ (hE.2 h) hG.1, fun e => absurd (e.trans h.symm) hne⟩
 · exact ⟨(fs.getD k (FactE.any t)).stays _ _ _ (hE.1 h) hG.1, fun e => hX _ _ _ (hE.1 h) (hG.2 e)⟩
theorem effAt_dep {t : TypeId} {l : List Oper} {m n : Nat} {ds : List Nat} {fs : List (FactE t)} {X : (Nat → Value) → World → Prop} (dps : List Nat) (hX : ∀ u u' w, (∀ s ∈ dps, u' s = u s) → X u w → X u' w)
    (h : (List.range l.length).all (fun k => match l[k]? with | some o => decide (n ≤ k) || o.dst == some (ds.getD k 0) | none => true) = true)
    (h7 : dps.all (fun s => (List.range l.length).any fun j => match l[j]?, l[m]? with | some p, some o => p.dst == some s && (o.after.any fun e => Region.binds .any e && e.on == j) | _, _ => false) = true) (hfs : fs.length ≤ n) (hll : n ≤ l.length) :
    ∀ (k : Nat) (u u' : Nat → Value) (w : World), (∀ (j : Nat) (p o : Oper), l[j]? = some p → l[k]? = some o → (j = k ∨ (o.after.any fun e => Region.binds .any e && e.on == j) = true) → valOf u' p = valOf u p) → effAt m ds fs X k u w → effAt m ds fs X k u' w := by
 intro k u u' w hv hg
 refine ⟨?_, ?_⟩
 · by_cases hk : n ≤ k
   · rw [List.getD_eq_getElem?_getD, List.getElem?_eq_none xo]; trivial
   · by_cases hl : k < l.length
     · have h1 := List.all_eq_true.1 h k (List.mem_range.2 hl)
       have ho : l[k]? = some l[k] := List.getElem?_eq_getElem hl
       rw [ho] at h1
       simp only [Bool.or_eq_true, decide_eq_true_eq, beq_iff_eq] at h1
       have h2 := h1.resolve_left hk
       have h3 := hv k _ _ ho ho (.inl rfl)
       simp only [valOf, h2] at h3
       rw [h3]
       exact hg.1
     · omega
 · rintro rfl
   refine hX u u' w (fun s hs => ?_) (hg.2 rfl)
   have h1 := List.all_eq_true.1 h7 s hs
   obtain ⟨j, hj, h2⟩ := List.any_eq_true.1 h1
   cases hp : l[j]? with
   | none => rw [hp] at h2; cases h2
   | some p =>
    cases ho : l[k]? with
    | none => rw [hp, ho] at h2; cases h2
    | some o =>
     rw [hp, ho] at h2
     simp only [Bool.and_eq_true, beq_iff_eq] at h2
     have e1 := hv j p o hp ho (.inr h2.2)
     simp only [valOf, h2.1] at e1
     exact e1
end
section
open Go.RowKit
theorem six_stT {t : TypeId} {w : World} {b : Nat} {cs : Array Value} (h : w.heap[b]? = some (.cells cs t (0, 0))) (x y z p q r : Value) :
    StT t w ((((((w.setCell ⟨b, 0, none⟩ x).setCell ⟨b, 1, none⟩ y).setCell ⟨b, 2, none⟩ z).setCell ⟨b, 3, none⟩ p).setCell ⟨b, 4, none⟩ q).setCell ⟨b, 5, none⟩ r) :=
  ⟨b, cs, _, h, heap_setCell_same _ _ _ _ _ _ (heap_setCell_same _ _ _ _ _ _ (heap_setCell_same _ _ _ _ _ _ (heap_setCell_same _ _ _ _ _ _ (heap_setCell_same _ _ _ _ _ _ (heap_setCell_same _ _ _ _ _ _ h))))), by simp, by simp only [World.size_setCell], fun q hq => by rw [heap_setCell_ne _ _ _ hq, heap_setCell_ne _ _ _ hq, heap_setCell_ne _ _ _ hq, heap_setCell_ne _ _ _ hq, heap_setCell_ne _ _ _ hq, heap_setCell_ne _ _ _ hq]⟩
theorem boxE_six {w : World} {b : Nat} {cs : Array Value} {t : TypeId} (h : w.heap[b]? = some (.cells cs t (0, 0))) (hs : cs.size = 6) :
    ∃ x0 x1 x2 x3 x4 x5, (w.cell? ⟨b, 0, none⟩ = some x0 ∧ w.cell? ⟨b, 1, none⟩ = some x1 ∧ w.cell? ⟨b, 2, none⟩ = some x2 ∧ w.cell? ⟨b, 3, none⟩ = some x3 ∧ w.cell? ⟨b, 4, none⟩ = some x4 ∧ w.cell? ⟨b, 5, none⟩ = some x5) ∧
      w.frozen? ⟨b, 0, none⟩ = false ∧ w.frozen? ⟨b, 1, none⟩ = false ∧ w.frozen? ⟨b, 2, none⟩ = false ∧ w.frozen? ⟨b, 3, none⟩ = false ∧ w.frozen? ⟨b, 4, none⟩ = false ∧ w.frozen? ⟨b, 5, none⟩ = false := by
 refine ⟨cs[0], cs[1], cs[2], cs[3], cs[4], cs[5], ⟨?_, ?_, ?_, ?_, ?_, ?_⟩, ?_, ?_, ?_, ?_, ?_, ?_⟩ <;> simp [World.cell?, World.frozen?, h, hs]
def FactE.slS (base : Nat) (c : SlC) : FactE 29 :=
  ⟨FactR.sl base c, fun _ _ _ h ⟨v1, v2, v3, v4, e, h1, h2, h3, h4⟩ => ⟨v1, v2, v3, v4, e, owns_stT h (by decide) h1, owns_stT h (by decide) h2, owns_stT h (by decide) h3, owns_stT h (by decide) h4⟩⟩
def FactR.slt (base : Nat) (c : SlC) (x : Value) : FactR RB := ⟨fun v w => ∃ y, v = .tuple #[y, x] ∧ (FactR.sl base c).holds y w, fun _ _ _ h ⟨y, e, h1⟩ => ⟨y, e, (FactR.sl base c).stays _ _ _ h h1⟩⟩
def FactE.slt (base : Nat) (c : SlC) (x : Value) : FactE 29 := ⟨FactR.slt base c x, fun _ _ _ h ⟨y, e, h1⟩ => ⟨y, e, (FactE.slS base c).bears _ _ _ h h1⟩⟩
def boxL (base s v : Nat) (u : Nat → Value) (w : World) : Prop := ∃ b cs, u s = .pointer (some ⟨b, 0, none⟩) ∧ base ≤ b ∧ b < w.heap.size ∧ u v = .agg cs ∧ PB w b cs.toList
theorem boxL_stays {base s v : Nat} : ∀ u w w', RB w w' → boxL base s v u w → boxL base s v u w' := by
 rintro u w w' h ⟨b, cs, h1, h2, h3, h4, h5⟩
 exact ⟨b, cs, h1, h2, Nat.lt_of_lt_of_le h3 h.size, h4, pb_below h h5 h3⟩
theorem boxL_dep {base s v : Nat} : ∀ u u' w, (∀ x ∈ [s, v], u' x = u x) → boxL base s v u w → boxL base s v u' w := by
 rintro u u' w hu ⟨b, cs, h1, h2, h3, h4, h5⟩
 exact ⟨b, cs, (hu s (by simp)).trans h1, h2, h3, (hu v (by simp)).trans h4, h5⟩
end
end Go.Proofs.YtookgoidlnlckaaDoor

/- Merged: PutW, PutL, Amg8, With. -/
import Derived.Test.YtookgoidlnlckaaDoorGapCostP21
import Derived.Test.YtookgoidlnlckaaDoorGapCostP19
import Derived.Test.YtookgoidlnlckaaDoorGapCostP22
import Derived.Test.YtookgoidlnlckaaDoorGapCostP18
import Derived.Test.YtookgoidlnlckaaDoorGapCostP20
import Derived.Test.YtookgoidlnlckaaDoorGapCostP7
import Derived.Test.YtookgoidlnlckaaDoorGapCostP8
namespace Go.Proofs.YtookgoidlnlckaaDoor
set_option maxRecDepth 100000
set_option maxHeartbeats 40000000
set_option linter.unusedVariables false
set_option linter.unusedSimpArgs false
section
open Go.RowKit Go.Shelf Go.Sort
theorem home_ok (seg : Int) (wa ka va ca : Option Addr) (wc kc vc cc lw n lv lc : Nat) (laid : Int) (k at_ : Nat) (e : Int) (hk : k ≤ 65536) (w : World) (NT : Hid (∀ W, Below w.heap.size w W → Calls Tryd.prog 10 #[.slice wa lw wc, .int .i64 n, .int .i64 ((k - 1 : Nat) : Int)] W (AnsB W (.tuple #[.int .i64 at_, .int .i64 e])))) :
    Calls Tryd.prog 25 #[.agg #[.int .i64 seg, .slice wa lw wc, .slice ka n kc, .slice va lv vc, .slice ca lc cc, .int .u64 laid], .int .i64 k] w (AnsB w (.int .i64 at_)) := by
 rcases Nat.eq_zero_or_pos k with rfl | hk0
 · rw [show ((0 - 1 : Nat) : Int) = 0 from rfl] at NT
   clear hk
   go_enter Tryd.func25, Tryd.ntmps25
   go_wp2_with fail
   refine (NT.out _ xbel).mono ?_
   rintro e w1 ⟨rfl, hb1⟩
   have hz_w1 := hb1.size
   try simp only [World.size_alloc, World.size_setCell] at hz_w1
   have hh := bc6 hb1 (al6 (b := w.heap.size) (by simp))
   obtain ⟨c_t0, c_t1, c_t2, c_t3, c_t4, c_t5⟩ := hh
   have z_t := blt hb1 (alz (b := w.heap.size) (by simp))
   have hB1 : Below w.heap.size w w1 := xbel
   go_wp2
   go_ret
   exact ⟨rfl, hB1⟩
 · have hw1 : IntKind.i64.wrap ((k : Int) - 1) = ((k - 1 : Nat) : Int) := by rw [show (k : Int) - 1 = ((k - 1 : Nat) : Int) by omega]; exact IntWalk.i64_in _ xo
   have hlt : ¬ (((k - 1 : Nat) : Int) < 0) := xo
   have hld : decide (((k - 1 : Nat) : Int) < 0) = false := by simp
   have hgt : decide ((0 : Int) < ((k - 1 : Nat) : Int)) = decide ((0 : Int) < ((k - 1 : Nat) : Int)) := rfl
   clear hgt
   go_enter Tryd.func25, Tryd.ntmps25
   go_wp2_with fail
   refine (NT.out _ xbel).mono ?_
   rintro e w1 ⟨rfl, hb1⟩
   have hz_w1 := hb1.size
   try simp only [World.size_alloc, World.size_setCell] at hz_w1
   have hh := bc6 hb1 (al6 (b := w.heap.size) (by simp))
   obtain ⟨c_t0, c_t1, c_t2, c_t3, c_t4, c_t5⟩ := hh
   have z_t := blt hb1 (alz (b := w.heap.size) (by simp))
   have hB1 : Below w.heap.size w w1 := xbel
   go_wp2
   go_ret
   exact ⟨rfl, hB1⟩
theorem putIs_ok (c : Cfg) (size : Int) (h : Nat) (n : Int) (f : Bool) (x : Int) (b1 b2 : Nat) (hn : 0 ≤ n ∧ n ≤ 65536) (w : World)
    (c_m0 : w.cell? ⟨b1, 0, none⟩ = some (.int .u8 c.tag))
    (c_m1 : w.cell? ⟨b1, 1, none⟩ = some (.int .i64 c.most))
    (c_m2 : w.cell? ⟨b1, 2, none⟩ = some (.int .i64 c.seg))
    (c_m3 : w.cell? ⟨b1, 3, none⟩ = some (.int .i64 c.least))
    (c_m4 : w.cell? ⟨b1, 4, none⟩ = some (.int .i64 c.den))
    (c_m5 : w.cell? ⟨b1, 5, none⟩ = some (.int .i64 c.ll))
    (c_m6 : w.cell? ⟨b1, 6, none⟩ = some (.int .i64 c.rl))
    (c_m7 : w.cell? ⟨b1, 7, none⟩ = some (.int .i64 c.rh))
    (c_m8 : w.cell? ⟨b1, 8, none⟩ = some (.int .i64 c.lh))
    (c_s0 : w.cell? ⟨b2, 0, none⟩ = some (.int .i64 size))
    (FU : Hid (∀ W, Below w.heap.size w W → Calls Tryd.prog 23 #[.agg #[.int .u8 c.tag, .int .i64 c.most, .int .i64 c.seg, .int .i64 c.least, .int .i64 c.den, .int .i64 c.ll, .int .i64 c.rl, .int .i64 c.rh, .int .i64 c.lh], .int .i64 size, .int .i64 h, .int .i64 (n + 1)] W (AnsB W (.tuple #[.bool f, .int .i64 x])))) :
    Calls Tryd.prog 22 #[.int .i64 h, .int .i64 n, .pointer (some ⟨b1, 0, none⟩), .pointer (some ⟨b2, 0, none⟩)] w (AnsB w (.bool !f)) := by
 have hw1 : IntKind.i64.wrap (n + 1) = n + 1 := IntWalk.i64_in _ xo
 go_enter Tryd.func22, Tryd.ntmps22
 go_wp2_with fail
 refine (FU.out _ xbel).mono ?_
 rintro e w1 ⟨rfl, hb1⟩
 go_wp2
 go_ret
 exact ⟨rfl, hb1⟩
theorem takeIs_ok (c : Cfg) (seg : Int) (wa ka va ca : Option Addr) (wc kc vc cc lw n lv lc : Nat) (laid : Int) (h : Nat) (m : Int) (f : Bool) (x : Int) (b1 b2 : Nat) (w : World)
    (c_m0 : w.cell? ⟨b1, 0, none⟩ = some (.int .u8 c.tag))
    (c_m1 : w.cell? ⟨b1, 1, none⟩ = some (.int .i64 c.most))
    (c_m2 : w.cell? ⟨b1, 2, none⟩ = some (.int .i64 c.seg))
    (c_m3 : w.cell? ⟨b1, 3, none⟩ = some (.int .i64 c.least))
    (c_m4 : w.cell? ⟨b1, 4, none⟩ = some (.int .i64 c.den))
    (c_m5 : w.cell? ⟨b1, 5, none⟩ = some (.int .i64 c.ll))
    (c_m6 : w.cell? ⟨b1, 6, none⟩ = some (.int .i64 c.rl))
    (c_m7 : w.cell? ⟨b1, 7, none⟩ = some (.int .i64 c.rh))
    (c_m8 : w.cell? ⟨b1, 8, none⟩ = some (.int .i64 c.lh))
    (c_s0 : w.cell? ⟨b2, 0, none⟩ = some (.int .i64 seg))
    (c_s1 : w.cell? ⟨b2, 1, none⟩ = some (.slice wa lw wc))
    (c_s2 : w.cell? ⟨b2, 2, none⟩ = some (.slice ka n kc))
    (c_s3 : w.cell? ⟨b2, 3, none⟩ = some (.slice va lv vc))
    (c_s4 : w.cell? ⟨b2, 4, none⟩ = some (.slice ca lc cc))
    (c_s5 : w.cell? ⟨b2, 5, none⟩ = some (.int .u64 laid))
    (FU : Hid (∀ W, Below w.heap.size w W → Calls Tryd.prog 35 #[.agg #[.int .u8 c.tag, .int .i64 c.most, .int .i64 c.seg, .int .i64 c.least, .int .i64 c.den, .int .i64 c.ll, .int .i64 c.rl, .int .i64 c.rh, .int .i64 c.lh], .int .i64 n, .int .i64 h, .int .i64 m] W (AnsB W (.tuple #[.bool f, .int .i64 x])))) :
    Calls Tryd.prog 37 #[.int .i64 h, .int .i64 m, .pointer (some ⟨b1, 0, none⟩), .pointer (some ⟨b2, 0, none⟩)] w (AnsB w (.bool !f)) := by
 go_enter Tryd.func37, Tryd.ntmps37
 go_wp2_with fail
 refine (FU.out _ xbel).mono ?_
 rintro e w1 ⟨rfl, hb1⟩
 go_wp2
 go_ret
 exact ⟨rfl, hb1⟩
def HighR (w : World) (a at_ H : Nat) (t : Int) (e : Ending) (w' : World) : Prop :=
  ∃ v, e = .returned (.tuple #[.int .i64 t, v]) ∧ w'.ownsRow w.heap.size 58 2 v (H + 1) ((prI (winsL a at_ (H + 1))).map (Value.int .i64)) ∧ Below w.heap.size w w'
theorem highest_ok (seg : Int) (wa ka va ca : Option Addr) (wc kc vc cc lw n lv lc : Nat) (laid : Int) (a H at_ : Nat) (hH : H ≤ 14) (p : Nat → Bool) (m : Nat → Int) (gf : FuncId) (lb : Array Value) (eg : ∀ args w, (callFunc gf args).run Tryd.prog w = .ok (.enter gf args) w) (w : World)
    (PA : Hid (∀ W, Below w.heap.size w W → Calls Tryd.prog 34 #[.int .i64 seg, .int .i64 n, .int .i64 at_] W (FreshW2 W (winsL a at_ (H + 1)) (.int .i64 0))))
    (AM : Hid (∀ h, h ≤ H → ∀ W, Below w.heap.size w W → Calls Tryd.prog 21 #[.agg #[.int .i64 seg, .slice wa lw wc, .slice ka n kc, .slice va lv vc, .slice ca lc cc, .int .u64 laid], .int .i64 ((wnd a h at_ * 2 ^ (a + h) : Nat) : Int), .int .i64 (((wnd a h at_ * 2 ^ (a + h) : Nat) : Int) + ((2 ^ (a + h) : Nat) : Int))] W (AnsB W (.int .i64 (m h)))))
    (IS : Hid (∀ h : Nat, h ≤ H → ∀ W, Below w.heap.size w W → Calls Tryd.prog gf (#[.int .i64 h, .int .i64 (m h)] ++ lb) W (AnsB W (.bool (p h))))) :
    Calls Tryd.prog 24 #[.agg #[.int .i64 seg, .slice wa lw wc, .slice ka n kc, .slice va lv vc, .slice ca lc cc, .int .u64 laid], .int .i64 at_, .func (.func gf) #[] lb] w (HighR w a at_ H (topI p (H + 1))) := by
 have HWL := hid (winsL_length a at_ (H + 1))
 have HWG := hid (fun i (h : i < H + 1) => winsL_get (a := a) (at_ := at_) h)
 go_enter Tryd.func24, Tryd.ntmps24
 go_wp2
 refine wp_scope_loop 0 (fun _ _ _ => False) rfl (fun _ _ _ h => h.elim) ?_
 intro HQ hHQ hpass
 clear hHQ hpass
 go_wp2_with fail
 refine (PA.out _ xbel).mono ?_
 rintro e w1 ⟨v1, rfl, ho1, hb1⟩
 have hz_w1 := hb1.size
 try simp only [World.size_alloc, World.size_setCell] at hz_w1
 have hh := bc6 hb1 (al6 (b := w.heap.size) (by simp))
 obtain ⟨c_t0, c_t1, c_t2, c_t3, c_t4, c_t5⟩ := hh
 have z_t := blt hb1 (alz (b := w.heap.size) (by simp))
 have hB1 : Below w.heap.size w w1 := xbel
 have HB1 := hid hB1
 have hz1 := hB1.size
 obtain ⟨ra, rc, rfl, hi1, -, -, hrc, -⟩ := row_of_owns ho1
 rw [HWL.out] at hrc ho1 ⊢
 have hw1 : IntKind.i64.wrap (((H + 1 : Nat) : Int) - 1) = ((H + 1 : Nat) : Int) - 1 := IntWalk.i64_in _ xo
 have HR1 := hid hi1
 have HO1 := hid ho1
 clear hb1 hB1 hi1 ho1
 go_wp2
 refine wp_label ?_
 go_wp2
 go_loopg [10] (H + 1) (fun gk iv wr => gk ≤ H + 1 ∧ iv = .int .i64 ((gk : Int) - 1) ∧ Hid (topI p (H + 1) = topI p gk) ∧ Hid (Below w1.heap.size w1 wr))
 case atStart => exact ⟨Nat.le_refl _, by congr 1; omega, hid rfl, hid (Below.refl _ _)⟩
 case round =>
  obtain ⟨hg, rfl, HT, HB⟩ := hrel
  rcases Nat.eq_zero_or_pos gk with rfl | hg0
  · have d1 : decide ((0 : Int) ≤ ((0 : Nat) : Int) - 1) = false := by decide
    have HB2 := hid (below_via HB.out HB1.out hz1)
    have HO2 := hid (owns_base (base' := w.heap.size) (owns_below HO1.out HB.out) (by first | omega | (simp; done)))
    have HV := hid (HT.out.trans (topI_zero p))
    go_wp2
    simp only [Exit.jump]
    go_ret2
    exact ⟨_, by rw [HV.out]; rfl, HO2.out, HB2.out⟩
  · obtain ⟨h, rfl⟩ : ∃ h, gk = h + 1 := ⟨gk - 1, by omega⟩
    have e1 : (((h + 1 : Nat) : Int) - 1) = (h : Int) := xo
    rw [e1]
    have hbr := HB.out
    have hz_wr := hbr.size
    try simp only [World.size_alloc, World.size_setCell] at hz_wr
    have hh := bc6 hbr ⟨c_t0, c_t1, c_t2, c_t3, c_t4, c_t5⟩
    clear c_t0 c_t1 c_t2 c_t3 c_t4 c_t5
    obtain ⟨c_t0, c_t1, c_t2, c_t3, c_t4, c_t5⟩ := hh
    replace z_t := blt hbr z_t
    have HB2 := hid (below_via hbr HB1.out hz1)
    have HO2 := hid (owns_base (base' := w.heap.size) (owns_below HO1.out hbr) (by first | omega | (simp; done)))
    have hpr := prI_get (l := winsL a at_ (H + 1)) (i := h) (by rw [HWL.out]; omega)
    rw [HWG.out h xo] at hpr
    obtain ⟨pb, po, x, y, rfl, hx, hy, hc0, hc1, -⟩ := (HR1.out.below hbr).get2 (i := h) (by rw [prI_length, HWL.out]; omega)
    have ex : ((wnd a h at_ * 2 ^ (a + h) : Nat) : Int) = x := by rw [← hx.out, hpr.1]
    have ey : ((wnd a h at_ * 2 ^ (a + h) : Nat) : Int) + ((2 ^ (a + h) : Nat) : Int) = y := by rw [← hy.out, hpr.2]
    have hhH : h ≤ H := xo
    have AM2 := hid (AM.out h hhH)
    have IS2 := hid (IS.out h hhH)
    have TY := hid (fun (q : p h = true) => topI_yes q)
    have TN := hid (fun (q : p h = false) => topI_no q)
    have hsub : IntKind.i64.wrap ((h : Int) - 1) = (h : Int) - 1 := IntWalk.i64_in _ xo
    rw [ey, ex] at AM2
    generalize m h = mh at *
    generalize p h = ph at *
    clear hpr hx hy ex ey e1 hbr
    go_upto_region 5 with (fail)
    have K0 := hid (fun d os => Calls.regrown_of (w := wr) (d := d) (os := os) (AM2.out (grow (redrawn wr d) os) (below_via (below_regrown wr d os) HB2.out HB2.out.size)))
    have K1 := hid (fun d os => Calls.regrown_of (w := wr) (d := d) (os := os) (IS2.out (grow (redrawn wr d) os) (below_via (below_regrown wr d os) HB2.out HB2.out.size)))
    have q0 := cell_regrown c_t0
    have q1 := cell_regrown c_t1
    have q2 := cell_regrown c_t2
    have q3 := cell_regrown c_t3
    have q4 := cell_regrown c_t4
    have q5 := cell_regrown c_t5
    have q6 := cell_regrown hc0
    have q7 := cell_regrown hc1
    refine wp_region_quiet_below xk xk ?_
    repeat (go_big_quiet_step (first | with_reducible exact K0.out _ _ | with_reducible exact K1.out _ _ | exact K0.out _ _ | exact K1.out _ _))
    refine wpQuiet_nil ?_
    intro _ hw'
    obtain ⟨⟨dq, osq⟩, hw''⟩ := hw'
    subst hw''
    have hbq := below_regrown wr dq osq
    clear q0 q1 q2 q3 q4 q5 q6 q7 K0 K1
    generalize Sort.grow (redrawn wr dq) osq = wx at *
    have HB4 := xv hbq HB2
    have HC4 := xv hbq HB
    have HO4 := hid (owns_below HO2.out hbq)
    clear hbq
    cases ph with
    | true =>
     have HV := hid (HT.out.trans (TY.out rfl))
     clear TY TN
     go_wp2
     simp only [Exit.jump]
     go_ret2
     exact ⟨_, by rw [HV.out]; rfl, HO4.out, HB4.out⟩
    | false =>
     have HV := hid (HT.out.trans (TN.out rfl))
     clear TY TN
     go_wp2
     go_roundg h
     case measure => omega
     case rel => exact ⟨by omega, by first | rfl | rw [hsub] | go_num, HV, HC4⟩
end
section
open Go.RowKit Go.Shelf Go.Sort
theorem Even_core (seg : Int) (wa ka va ca : Option Addr) (wc kc vc cc lw n lv lc : Nat) (laid : Int) (lo hi : Int) (L : List (Int × Int)) (d : SlC) (w : World)
    (PR : Hid (∀ W, Below w.heap.size w W → Calls Tryd.prog 27 #[.agg #[.int .i64 seg, .slice wa lw wc, .slice ka n kc, .slice va lv vc, .slice ca lc cc, .int .u64 laid], .int .i64 lo, .int .i64 hi] W (FreshPr2 W L (.int .i64 0))))
    (OV : Hid (∀ la pl W, Below w.heap.size w W → IsRow .i64 W la (prI L) → Calls Tryd.prog 50 #[.agg #[.int .i64 seg, .slice wa lw wc, .slice ka n kc, .slice va lv vc, .slice ca lc cc, .int .u64 laid], .int .i64 lo, .int .i64 hi, .slice la L.length pl] W (FreshSl2 W d (.int .i64 0)))) :
    Calls Tryd.prog 39 #[.agg #[.int .i64 seg, .slice wa lw wc, .slice ka n kc, .slice va lv vc, .slice ca lc cc, .int .u64 laid], .int .i64 lo, .int .i64 hi] w (FreshSl2 w d (.int .i64 0)) := by
 go_enter Tryd.func39, Tryd.ntmps39
 go_wp2_with fail
 refine (PR.out _ xbel).mono ?_
 rintro e w1 ⟨v, rfl, ho1, hb1⟩
 have hz_w1 := hb1.size
 try simp only [World.size_alloc, World.size_setCell] at hz_w1
 have hh := bc6 hb1 (au6 (al6 (b := w.heap.size) (by simp)))
 obtain ⟨c_t0, c_t1, c_t2, c_t3, c_t4, c_t5⟩ := hh
 have z_t := blt hb1 (auz (alz (b := w.heap.size) (by simp)))
 have hh := bc6 hb1 (al6 (b := w.heap.size + 1) (by simp))
 obtain ⟨c_r0, c_r1, c_r2, c_r3, c_r4, c_r5⟩ := hh
 have hh := bf6 hb1 (alz (b := w.heap.size + 1) (by simp)) (alf6 (b := w.heap.size + 1) (by simp))
 obtain ⟨f_r0, f_r1, f_r2, f_r3, f_r4, f_r5⟩ := hh
 have z_r := blt hb1 (alz (b := w.heap.size + 1) (by simp))
 have hB1 : Below w.heap.size w w1 := xbel
 have hza := z_r
 obtain ⟨la, pl, rfl, hi1, -, -, -, -⟩ := row_of_owns ho1
 have OV1 := hid (OV.out la pl w1 hB1 hi1)
 have HB1 := hid hB1
 clear hb1 hB1 ho1 hi1
 go_wp2_with fail
 refine (OV1.out).mono ?_
 rintro e w2 ⟨v1, v2, v3, v4, rfl, p1, p2, p3, p4, hb2⟩
 have hz_w2 := hb2.size
 try simp only [World.size_alloc, World.size_setCell] at hz_w2
 have hh := bc6 hb2 ⟨c_t0, c_t1, c_t2, c_t3, c_t4, c_t5⟩
 clear c_t0 c_t1 c_t2 c_t3 c_t4 c_t5
 obtain ⟨c_t0, c_t1, c_t2, c_t3, c_t4, c_t5⟩ := hh
 replace z_t := blt hb2 z_t
 have hh := bc6 hb2 ⟨c_r0, c_r1, c_r2, c_r3, c_r4, c_r5⟩
 clear c_r0 c_r1 c_r2 c_r3 c_r4 c_r5
 obtain ⟨c_r0, c_r1, c_r2, c_r3, c_r4, c_r5⟩ := hh
 have hh := bf6 hb2 z_r ⟨f_r0, f_r1, f_r2, f_r3, f_r4, f_r5⟩
 clear f_r0 f_r1 f_r2 f_r3 f_r4 f_r5
 obtain ⟨f_r0, f_r1, f_r2, f_r3, f_r4, f_r5⟩ := hh
 replace z_r := blt hb2 z_r
 have hB2 := below_via hb2 HB1.out HB1.out.size
 obtain ⟨a1, k1, rfl, -, -, -, -, -⟩ := row_of_owns p1
 obtain ⟨a2, k2, rfl, -, -, -, -, -⟩ := row_of_owns p2
 obtain ⟨a3, k3, rfl, -, -, -, -, -⟩ := row_of_owns p3
 obtain ⟨a4, k4, rfl, -, -, -, -, -⟩ := row_of_owns p4
 have HP := hid (And.intro p1 (And.intro p2 (And.intro p3 p4)))
 clear p1 p2 p3 p4 hb2
 have hz1 : w.heap.size + 1 < w1.heap.size := hza
 go_wp2
 have HC := hid (six_some ⟨c_r0, c_r1, c_r2, c_r3, c_r4, c_r5⟩)
 refine bodyPost_ret (results_ct rfl rfl (run_loadVar_many _ Tryd.underlying29 rfl xk (setCs_all (W := w2) (b := w.heap.size + 1) (l := [.int .i64 d.seg, .slice a1 d.ws.length k1, .slice a2 d.ks.length k2, .slice a3 d.vs.length k3, .slice a4 d.cs.length k4, .int .u64 d.laid]) HC.out))) rfl ⟨_, _, _, _, rfl, ?_, ?_, ?_, ?_, ?_⟩
 · exact owns_base (setCs_owns (b := w.heap.size + 1) (i := 0) hz1 [.int .i64 d.seg, .slice a1 d.ws.length k1, .slice a2 d.ks.length k2, .slice a3 d.vs.length k3, .slice a4 d.cs.length k4, .int .u64 d.laid] HP.out.1) xo
 · exact owns_base (setCs_owns (b := w.heap.size + 1) (i := 0) hz1 [.int .i64 d.seg, .slice a1 d.ws.length k1, .slice a2 d.ks.length k2, .slice a3 d.vs.length k3, .slice a4 d.cs.length k4, .int .u64 d.laid] HP.out.2.1) xo
 · exact owns_base (setCs_owns (b := w.heap.size + 1) (i := 0) hz1 [.int .i64 d.seg, .slice a1 d.ws.length k1, .slice a2 d.ks.length k2, .slice a3 d.vs.length k3, .slice a4 d.cs.length k4, .int .u64 d.laid] HP.out.2.2.1) xo
 · exact owns_base (setCs_owns (b := w.heap.size + 1) (i := 0) hz1 [.int .i64 d.seg, .slice a1 d.ws.length k1, .slice a2 d.ks.length k2, .slice a3 d.vs.length k3, .slice a4 d.cs.length k4, .int .u64 d.laid] HP.out.2.2.2) xo
 · exact setCs_below (b := w.heap.size + 1) xo [.int .i64 d.seg, .slice a1 d.ws.length k1, .slice a2 d.ks.length k2, .slice a3 d.vs.length k3, .slice a4 d.cs.length k4, .int .u64 d.laid] _ 0 hB2
end
section
open Go.RowKit Go.Shelf
theorem insL_prI (L : List (Int × Int)) (k : Nat) (p : Int × Int) : prI (insL L k p) = prI (L.take k) ++ [p.1, p.2] ++ prI (L.drop k) := by
 rw [insL, prI_append, show p :: L.drop k = [p] ++ L.drop k from rfl, prI_append, List.append_assoc]
 rfl
structure AtZ (a : Option Addr) (m pl : Nat) : Prop where
 off : ∀ x, a = some x → x.off = 0 ∧ x.spot = none
 no : a = none → m = 0 ∧ pl = 0
 le : m ≤ pl
theorem AtZ.cases {a : Option Addr} {m pl : Nat} (h : AtZ a m pl) : (a = none ∧ m = 0 ∧ pl = 0) ∨ ∃ g, a = some ⟨g, 0, none⟩ := by
 cases a with
 | none => exact .inl ⟨rfl, (h.no rfl).1, (h.no rfl).2⟩
 | some x =>
  obtain ⟨h1, h2⟩ := h.off x rfl
  obtain ⟨b, o, s⟩ := x
  dsimp only at h1 h2
  subst h1 h2
  exact .inr ⟨b, rfl⟩
theorem atz_owns {w : World} {B : Nat} {e : TypeId} {s m cap : Nat} {a : Option Addr} {k : IntKind} {xs : List Int} (h : w.ownsRow B e s (.slice a m cap) m (xs.map (Value.int k))) : AtZ a m cap := by
 obtain ⟨a', c', he, -, h1, h2, h3, -⟩ := row_of_owns h
 cases he
 exact ⟨fun x hx => ⟨(h1 x hx).2.2.1, (h1 x hx).2.2.2⟩, h2, h3⟩
end
section
open Go.RowKit Go.Shelf Go.Sort
attribute [local go_sem] Oper.semAt_some
def oneR (base : Nat) (xs : List Value) : FactR RB := ⟨fun v w => ∃ b, v = .slice (some ⟨b, 0, none⟩) 1 1 ∧ w.ownsRow base 31 2 v 1 xs, fun _ _ _ h ⟨b, e, h1⟩ => ⟨b, e, owns_below h1 h⟩⟩
def ownR (base n : Nat) (xs : List Value) : FactR RB := ⟨fun v w => w.ownsRow base 31 2 v n xs, fun _ _ _ h h1 => owns_below h1 h⟩
theorem With_core (seg : Int) (wa ka va ca : Option Addr) (wc kc vc cc lw n lv lc : Nat) (laid : Int) (lo hi k : Nat) (x y : Int) (L : List (Int × Int)) (hL : L.length ≤ 65536) (hk : k ≤ L.length) (hroom : lo + L.length < hi) (hhi : hi ≤ 65536) (d : SlC) (w : World)
    (PR : Hid (∀ W, Below w.heap.size w W → Calls Tryd.prog 27 #[.agg #[.int .i64 seg, .slice wa lw wc, .slice ka n kc, .slice va lv vc, .slice ca lc cc, .int .u64 laid], .int .i64 lo, .int .i64 hi] W (FreshPr2 W L (.int .i64 0))))
    (OV : Hid (∀ la pl W, Below w.heap.size w W → IsRow .i64 W la (prI (insL L k (x, y))) → Calls Tryd.prog 50 #[.agg #[.int .i64 seg, .slice wa lw wc, .slice ka n kc, .slice va lv vc, .slice ca lc cc, .int .u64 laid], .int .i64 lo, .int .i64 hi, .slice la (L.length + 1) pl] W (FreshSl2 W d (.int .i64 0)))) :
    Calls Tryd.prog 26 #[.agg #[.int .i64 seg, .slice wa lw wc, .slice ka n kc, .slice va lv vc, .slice ca lc cc, .int .u64 laid], .int .i64 lo, .int .i64 hi, .int .i64 k, .agg #[.int .i64 x, .int .i64 y]] w (FreshSl2 w d (.int .i64 0)) := by
 have hw1 : IntKind.i64.wrap ((hi : Int) - (lo : Int)) = (hi : Int) - (lo : Int) := IntWalk.i64_in _ xo
 have g1 : ((L.length : Int) == (hi : Int) - (lo : Int)) = false := by rw [beq_eq_false_iff_ne]; omega
 have g2 : ¬ ((L.length : Int) < (k : Int)) := xo
 have HRW := hid (fun (w : World) la pl (h : IsRow .i64 w la (prI L)) (hz : AtZ la L.length pl) => And.intro (row_take h hk) (row_from h rfl hz.le hk (fun e => (hz.no e).2)))
 have HLT := hid (show (prI (L.take k)).length = k * 2 by rw [prI_length, List.length_take]; omega)
 have HLD := hid (show (prI (L.drop k)).length = (L.length - k) * 2 by rw [prI_length, List.length_drop])
 have HIN := hid (insL_prI L k (x, y))
 go_enter Tryd.func26, Tryd.ntmps26
 go_wp2_with fail
 refine (PR.out _ xbel).mono ?_
 rintro e w1 ⟨v, rfl, ho1, hb1⟩
 have hz_w1 := hb1.size
 try simp only [World.size_alloc, World.size_setCell] at hz_w1
 have hh := bc6 hb1 (au6 (au6 (al6 (b := w.heap.size) (by simp))))
 obtain ⟨c_t0, c_t1, c_t2, c_t3, c_t4, c_t5⟩ := hh
 have z_t := blt hb1 (auz (auz (alz (b := w.heap.size) (by simp))))
 have hh := bc2 hb1 (au2 (al2 (b := w.heap.size + 1) (by simp)))
 obtain ⟨c_p0, c_p1⟩ := hh
 have z_p := blt hb1 (auz (alz (b := w.heap.size + 1) (by simp)))
 have hh := bc6 hb1 (al6 (b := w.heap.size + 1 + 1) (by simp))
 obtain ⟨c_r0, c_r1, c_r2, c_r3, c_r4, c_r5⟩ := hh
 have hh := bf6 hb1 (alz (b := w.heap.size + 1 + 1) (by simp)) (alf6 (b := w.heap.size + 1 + 1) (by simp))
 obtain ⟨f_r0, f_r1, f_r2, f_r3, f_r4, f_r5⟩ := hh
 have z_r := blt hb1 (alz (b := w.heap.size + 1 + 1) (by simp))
 have hB1 : Below w.heap.size w w1 := xbel
 obtain ⟨la, pl, rfl, hi1, -, -, -, -⟩ := row_of_owns ho1
 have hz := atz_owns ho1
 have HR := hid (HRW.out w1 la pl hi1 hz)
 have HN := hid (fun h : la = none => (hz.no h))
 have HK0 := hid (And.intro hk (And.intro hz.le (Nat.le_trans hk hz.le)))
 have HM := hid hL
 obtain ⟨da, hda⟩ : ∃ da, (if pl = k then la else la.map (·.add (k * 2))) = da := ⟨_, rfl⟩
 rw [hda] at HR
 have HDA := hid hda
 have HT := hid HR.out.1
 have HD := hid HR.out.2
 have HB1 := hid hB1
 have hzp : w.heap.size + 1 + 1 < w1.heap.size := z_r
 clear hb1 hB1 ho1 hi1 hz HR HRW hda hk hL hroom hhi PR
 generalize prI (L.take k) = T at *
 generalize prI (L.drop k) = D at *
 generalize prI (insL L k (x, y)) = Z at *
 generalize L.length = m at *
 go_upto_region 8 with (fail)
 refine wp_region_late 7 xk (N := 63) rfl xk xk (by decide) (fun w' => Below w1.heap.size w1 w') RB (factRAt [.is (.slice la m pl), .is (.int .i64 k), .is (.int .i64 k), .is (.slice la k k), .is (.agg #[.int .i64 x, .int .i64 y]), oneR w1.heap.size [.int .i64 x, .int .i64 y], ownR w1.heap.size (k + 1) (T.map (Value.int .i64) ++ [.int .i64 x, .int .i64 y])]) (factRAt_stays _) (Below.refl _ _).drew ?steps ?fin
 case steps =>
  refine ⟨?o0, ?o1, ?o2, ?o3, ?o4, ?o5, ?o6, trivial⟩
  case o0 =>
   intro u a w' ev hJ hd K hK
   have e12 : a.tmps.getD 12 undef = .slice la m pl := ev 12 (by decide)
   have HK := hid hK
   clear hK ev hd
   go_simp
   exact HK.out _ _ (fun h => by cases h) hJ rfl (Below.refl _ _)
  case o1 =>
   intro u a w' ev hJ hd K hK
   have e3 : a.tmps.getD 3 undef = .int .i64 k := ev 3 (by decide)
   have HK := hid hK
   clear hK ev hd
   go_simp
   exact HK.out _ _ (fun h => by cases h) hJ rfl (Below.refl _ _)
  case o2 =>
   intro u a w' ev hJ hd K hK
   have e3 : a.tmps.getD 3 undef = .int .i64 k := ev 3 (by decide)
   have HK := hid hK
   clear hK ev hd
   go_simp
   exact HK.out _ _ (fun h => by cases h) hJ rfl (Below.refl _ _)
  case o3 =>
   intro u a w' ev hJ hd K hK
   have e45 : a.tmps.getD 45 undef = .slice la m pl := (ev 45 (by decide)).trans (hd 0 _ xk rfl)
   have e46 : a.tmps.getD 46 undef = .int .i64 k := (ev 46 (by decide)).trans (hd 1 _ xk rfl)
   have e47 : a.tmps.getD 47 undef = .int .i64 k := (ev 47 (by decide)).trans (hd 2 _ xk rfl)
   have hzJ := hJ.size
   exact wp_slice_full 47 31 (.tmp 45) (.tmp 46) (.tmp 47) 2 la m pl k rfl Tryd.underlying47 xk e45 e46 e47 HK0.out.2.2 (hK _ _ (fun h => by cases h) hJ rfl (Below.refl _ _))
  case o4 =>
   intro u a w' ev hJ hd K hK
   have e9 : a.tmps.getD 9 undef = .pointer (some ⟨w.heap.size + 1, 0, none⟩) := ev 9 (by decide)
   have g0 := (hJ.cell (p := ⟨w.heap.size + 1, 0, none⟩) (by dsimp only; omega)).trans c_p0
   have g1 := (hJ.cell (p := ⟨w.heap.size + 1, 1, none⟩) (by dsimp only; omega)).trans c_p1
   have HK := hid hK
   clear hK ev hd
   go_simp
   exact HK.out _ _ (fun h => by cases h) hJ rfl (Below.refl _ _)
  case o5 =>
   intro u a w' ev hJ hd K hK
   have e49 : a.tmps.getD 49 undef = .agg #[.int .i64 x, .int .i64 y] := (ev 49 (by decide)).trans (hd 4 _ xk rfl)
   have f49 : a.tmps[49]?.getD undef = .agg #[.int .i64 x, .int .i64 y] := by rw [← Array.getD_eq_getD_getElem?]; exact e49
   have HK := hid hK
   have hzJ := hJ.size
   clear hK ev hd
   go_simp
   exact HK.out _ _ (fun h => by cases h) (hJ.alloc hzJ _) ⟨_, rfl, World.ownsRow_lit _ _ 1 hzJ (by decide) rfl⟩ ((Below.refl _ _).alloc (Nat.le_refl _) _)
  case o6 =>
   intro u a w' ev hJ hd K hK
   have e48 : a.tmps.getD 48 undef = .slice la k k := (ev 48 (by decide)).trans (hd 3 _ xk rfl)
   obtain ⟨bb, h50, hown⟩ : (oneR w1.heap.size [.int .i64 x, .int .i64 y]).holds (u 50) w' := hd 5 _ xk rfl
   have e50 : a.tmps.getD 50 undef = .slice (some ⟨bb, 0, none⟩) 1 1 := (ev 50 (by decide)).trans h50
   rw [h50] at hown
   have hzJ := hJ.size
   obtain ⟨v', w'', hr, ho, hg, -⟩ := run_append_full (P := Tryd.prog) w' w1.heap.size 47 _ 31 (.agg #[.int .i64 0, .int .i64 0]) 2 16 Tryd.underlying47 info_Pair rfl (by decide) la k (T.map (Value.int .i64)) (by rw [List.length_map, HLT.out]) (fun h => by have := HN.out h; have := HK0.out; omega) (row_news' (HT.out.below hJ)) ⟨bb, 0, none⟩ 1 1 [.int .i64 x, .int .i64 y] rfl (World.ownsRow.cells hown (g := bb) rfl) (by simp [Value.oneCell']) (by decide) (by have := HM.out; have := HK0.out; omega) (by decide) hzJ
   have hbw : Below w'.heap.size w' w'' := (Below.refl _ _).grown hg (Nat.le_refl _) (fun k hk => by cases hk)
   exact wp_value (exec_append rfl e48 e50 hr) (hK _ _ (fun h => by cases h) (hJ.trans (hbw.mono hzJ)) ho hbw)
 case fin =>
  intro u w2 hJ hG
  have hrow : (ownR w1.heap.size (k + 1) (T.map (Value.int .i64) ++ [.int .i64 x, .int .i64 y])).holds (u 51) w2 := hG 6 _ rfl
  obtain ⟨a2, c2, h51, -⟩ := owns_news hrow
  change w2.ownsRow _ _ _ (u 51) _ _ at hrow
  rw [h51] at hrow
  have HO2 := hid hrow
  have HC2 := hid hJ
  clear hG hrow hJ
  simp only [mixFrame, mixL, dstsOf, List.take_succ_cons, List.take_zero, List.filterMap_cons, List.filterMap_nil, List.contains_cons, List.contains_nil, Nat.reduceBEq, Bool.or_false, Bool.false_or, Bool.or_true, Bool.true_or, if_true, if_false, Bool.false_eq_true, Nat.reduceAdd, Nat.zero_add, List.drop_succ_cons, List.drop_zero, h51]
  go_upto_region 9 with (fail)
  obtain ⟨RA, hRA⟩ : ∃ RA : World → World → Prop, RA = fun w w' => Below w1.heap.size w w' ∧ ∀ z, w2.heap.size ≤ z → z < w.heap.size → w'.heap[z]? = w.heap[z]? := ⟨_, rfl⟩
  have hA : ∀ w w', RA w w' → ∀ z, w2.heap.size ≤ z → z < w.heap.size → w'.heap[z]? = w.heap[z]? := fun w w' h => by rw [hRA] at h; exact h.2
  refine wp_region_eff 11 xk (N := 63) rfl xk xk (by decide) (fun w' => Below w1.heap.size w1 w' ∧ w'.ownsRow w1.heap.size 31 2 (.slice a2 (k + 1) c2) (k + 1) (T.map (Value.int .i64) ++ [.int .i64 x, .int .i64 y]) ∧ w2.heap.size ≤ w'.heap.size) (yExt 7 RA) (yAt 11 [52, 53, 54, 55, 56, 57, 58, 59, 60, 61, 62] [yIs RA (.agg #[.int .i64 seg, .slice wa lw wc, .slice ka n kc, .slice va lv vc, .slice ca lc cc, .int .u64 laid]), yIs RA (.int .i64 lo), yIs RA (.int .i64 hi), yIs RA (.slice a2 (k + 1) c2), yIs RA (.slice la m pl), yIs RA (.int .i64 k), yIs RA (.slice da (m - k) (pl - k)), yRow RA w1.heap.size (m + 1) (T.map (Value.int .i64) ++ [.int .i64 x, .int .i64 y] ++ D.map (Value.int .i64)), ySl2 w2.heap.size hA d (.int .i64 0), ySl w2.heap.size hA d, yIs RA (.int .i64 0)]) (y_stays (by intro k h1 h2; rcases k with _ | _ | _ | _ | _ | _ | _ | _ | _ | _ | _ | k <;> first | rfl | omega)) (y_dep xk) ⟨HC2.out.drew, HO2.out.drew, Nat.le_refl _⟩ ?steps9 ?fin9
  case steps9 =>
   refine ⟨?o0, ?o1, ?o2, ?o3, ?o4, ?o5, ?o6, ?o7, ?o8, ?o9, ?o10, trivial⟩
   case o0 =>
    intro u a w' ev hJ hd K hK
    obtain ⟨hJ1, hJ2, hJ3⟩ := hJ
    have e5 : a.tmps.getD 5 undef = .pointer (some ⟨w.heap.size, 0, none⟩) := ev 5 (by decide)
    have g0 := (hJ1.cell (p := ⟨w.heap.size, 0, none⟩) (by dsimp only; omega)).trans c_t0
    have g1 := (hJ1.cell (p := ⟨w.heap.size, 1, none⟩) (by dsimp only; omega)).trans c_t1
    have g2 := (hJ1.cell (p := ⟨w.heap.size, 2, none⟩) (by dsimp only; omega)).trans c_t2
    have g3 := (hJ1.cell (p := ⟨w.heap.size, 3, none⟩) (by dsimp only; omega)).trans c_t3
    have g4 := (hJ1.cell (p := ⟨w.heap.size, 4, none⟩) (by dsimp only; omega)).trans c_t4
    have g5 := (hJ1.cell (p := ⟨w.heap.size, 5, none⟩) (by dsimp only; omega)).trans c_t5
    have HK := hid hK
    clear hK ev hd
    go_simp
    exact HK.out _ _ (fun h => by cases h) ⟨hJ1, hJ2, hJ3⟩ (fun _ => by simp [updR, yIs]) ⟨fun h => absurd h (by decide), fun _ => Below.refl _ _⟩
   case o1 =>
    intro u a w' ev hJ hd K hK
    obtain ⟨hJ1, hJ2, hJ3⟩ := hJ
    have e1 : a.tmps.getD 1 undef = .int .i64 lo := ev 1 (by decide)
    have HK := hid hK
    clear hK ev hd
    go_simp
    exact HK.out _ _ (fun h => by cases h) ⟨hJ1, hJ2, hJ3⟩ (fun _ => by simp [updR, yIs]) ⟨fun h => absurd h (by decide), fun _ => Below.refl _ _⟩
   case o2 =>
    intro u a w' ev hJ hd K hK
    obtain ⟨hJ1, hJ2, hJ3⟩ := hJ
    have e2 : a.tmps.getD 2 undef = .int .i64 hi := ev 2 (by decide)
    have HK := hid hK
    clear hK ev hd
    go_simp
    exact HK.out _ _ (fun h => by cases h) ⟨hJ1, hJ2, hJ3⟩ (fun _ => by simp [updR, yIs]) ⟨fun h => absurd h (by decide), fun _ => Below.refl _ _⟩
   case o3 =>
    intro u a w' ev hJ hd K hK
    obtain ⟨hJ1, hJ2, hJ3⟩ := hJ
    have e14 : a.tmps.getD 14 undef = .slice a2 (k + 1) c2 := ev 14 (by decide)
    have HK := hid hK
    clear hK ev hd
    go_simp
    exact HK.out _ _ (fun h => by cases h) ⟨hJ1, hJ2, hJ3⟩ (fun _ => by simp [updR, yIs]) ⟨fun h => absurd h (by decide), fun _ => Below.refl _ _⟩
   case o4 =>
    intro u a w' ev hJ hd K hK
    obtain ⟨hJ1, hJ2, hJ3⟩ := hJ
    have e12 : a.tmps.getD 12 undef = .slice la m pl := ev 12 (by decide)
    have HK := hid hK
    clear hK ev hd
    go_simp
    exact HK.out _ _ (fun h => by cases h) ⟨hJ1, hJ2, hJ3⟩ (fun _ => by simp [updR, yIs]) ⟨fun h => absurd h (by decide), fun _ => Below.refl _ _⟩
   case o5 =>
    intro u a w' ev hJ hd K hK
    obtain ⟨hJ1, hJ2, hJ3⟩ := hJ
    have e3 : a.tmps.getD 3 undef = .int .i64 k := ev 3 (by decide)
    have HK := hid hK
    clear hK ev hd
    go_simp
    exact HK.out _ _ (fun h => by cases h) ⟨hJ1, hJ2, hJ3⟩ (fun _ => by simp [updR, yIs]) ⟨fun h => absurd h (by decide), fun _ => Below.refl _ _⟩
   case o6 =>
    intro u a w' ev hJ hd K hK
    obtain ⟨hJ1, hJ2, hJ3⟩ := hJ
    have e56 : a.tmps.getD 56 undef = .slice la m pl := (ev 56 (by decide)).trans ((hd 4 _ xk rfl) (by decide))
    have e57 : a.tmps.getD 57 undef = .int .i64 k := (ev 57 (by decide)).trans ((hd 5 _ xk rfl) (by decide))
    exact wp_slice_from 47 31 (.tmp 56) (.tmp 57) 2 la m pl k da HDA.out rfl Tryd.underlying47 xk e56 e57 HK0.out.1 HK0.out.2.1 (hK _ _ (fun h => by cases h) ⟨hJ1, hJ2, hJ3⟩ (fun _ => by simp [updR, yIs]) ⟨fun h => absurd h (by decide), fun _ => Below.refl _ _⟩)
   case o7 =>
    intro u a w' ev hJ hd K hK
    obtain ⟨hJ1, hJ2, hJ3⟩ := hJ
    have e55 : a.tmps.getD 55 undef = .slice a2 (k + 1) c2 := (ev 55 (by decide)).trans ((hd 3 _ xk rfl) (by decide))
    have e58 : a.tmps.getD 58 undef = .slice da (m - k) (pl - k) := (ev 58 (by decide)).trans ((hd 6 _ xk rfl) (by decide))
    obtain ⟨v', w'', hr, ho, hg, ho2⟩ := run_append_y (P := Tryd.prog) w' w1.heap.size 47 _ 31 (.agg #[.int .i64 0, .int .i64 0]) 2 16 Tryd.underlying47 info_Pair rfl (by decide) (.slice a2 (k + 1) c2) (k + 1) (T.map (Value.int .i64) ++ [.int .i64 x, .int .i64 y]) hJ2 da (m - k) (pl - k) (D.map (Value.int .i64)) (by rw [List.length_map, HLD.out]) HD.out.2 (row_news' (HD.out.1.below hJ1)) (numCells _) (by have := HM.out; have := HK0.out; omega) (by decide) hJ1.size
    have hbw : Below w1.heap.size w' w'' := (Below.refl w1.heap.size w').grown hg hJ1.size (fun z hz => (hJ2.lt z hz).1)
    have hlen : k + 1 + (m - k) = m + 1 := by have := HK0.out; omega
    rw [hlen] at ho
    exact wp_value (exec_append rfl e55 e58 hr) (hK _ _ (fun h => by cases h) ⟨hJ1.trans hbw, ho2, Nat.le_trans hJ3 hg.size⟩ (fun _ => by simpa [updR, yRow] using ho) ⟨fun _ => by rw [hRA]; exact ⟨hbw, fun z h1 h2 => hg.block z h2 (fun e => by have := (HO2.out.lt z e.symm).2; omega)⟩, fun h => absurd rfl h⟩)
   case o8 =>
    intro u a w' ev hJ hd K hK
    obtain ⟨hJ1, hJ2, hJ3⟩ := hJ
    have e52 : a.tmps.getD 52 undef = .agg #[.int .i64 seg, .slice wa lw wc, .slice ka n kc, .slice va lv vc, .slice ca lc cc, .int .u64 laid] := (ev 52 (by decide)).trans ((hd 0 _ xk rfl) (by decide))
    have e53 : a.tmps.getD 53 undef = .int .i64 lo := (ev 53 (by decide)).trans ((hd 1 _ xk rfl) (by decide))
    have e54 : a.tmps.getD 54 undef = .int .i64 hi := (ev 54 (by decide)).trans ((hd 2 _ xk rfl) (by decide))
    have ho3 : w'.ownsRow w1.heap.size 31 2 (u 59) (m + 1) (T.map (Value.int .i64) ++ [.int .i64 x, .int .i64 y] ++ D.map (Value.int .i64)) := (hd 7 _ xk rfl) (by decide)
    obtain ⟨a3, c3, h59, -⟩ := owns_news ho3
    rw [h59] at ho3
    have e59 : a.tmps.getD 59 undef = .slice a3 (m + 1) c3 := (ev 59 (by decide)).trans h59
    have hrow3 : IsRow .i64 w' a3 Z := by
     rw [HIN.out]
     rw [show T.map (Value.int .i64) ++ [.int .i64 x, .int .i64 y] ++ D.map (Value.int .i64) = (T ++ [x, y] ++ D).map (Value.int .i64) by simp] at ho3
     obtain ⟨a', c', he, hh, -⟩ := row_of_owns ho3
     cases he
     exact hh
    have HC := hid (OV.out a3 c3 w' (below_via hJ1 HB1.out HB1.out.size) hrow3)
    have HK := hid hK
    have HJ := hid (And.intro hJ1 (And.intro hJ2 hJ3))
    clear hK ev hd hJ1 hJ2 hJ3 ho3 hrow3 h59
    go_simp
    refine HC.out.mono ?_
    rintro e w'' ⟨v1, v2, v3, v4, rfl, p1, p2, p3, p4, hb⟩
    obtain ⟨hJ1, hJ2, hJ3⟩ := HJ.out
    exact HK.out _ _ (fun h => by cases h) ⟨hJ1.trans (hb.mono hJ1.size), owns_below hJ2 hb, Nat.le_trans hJ3 hb.size⟩ (fun _ => ⟨_, by simp [updR], v1, v2, v3, v4, rfl, owns_base p1 hJ3, owns_base p2 hJ3, owns_base p3 hJ3, owns_base p4 hJ3⟩) ⟨fun h => absurd h (by decide), fun _ => hb⟩
   case o9 =>
    intro u a w' ev hJ hd K hK
    obtain ⟨hJ1, hJ2, hJ3⟩ := hJ
    obtain ⟨y, h60, hy⟩ : (ySl2 w2.heap.size hA d (.int .i64 0)).holds (u 60) w' := (hd 8 _ xk rfl) (by decide)
    have e60 : a.tmps.getD 60 undef = .tuple #[y, .int .i64 0] := (ev 60 (by decide)).trans h60
    have HK := hid hK
    have HY := hid hy
    clear hK ev hd hy
    go_simp
    exact HK.out _ _ (fun h => by cases h) ⟨hJ1, hJ2, hJ3⟩ (fun _ => by simpa [updR] using HY.out) ⟨fun h => absurd h (by decide), fun _ => Below.refl _ _⟩
   case o10 =>
    intro u a w' ev hJ hd K hK
    obtain ⟨hJ1, hJ2, hJ3⟩ := hJ
    obtain ⟨y, h60, hy⟩ : (ySl2 w2.heap.size hA d (.int .i64 0)).holds (u 60) w' := (hd 8 _ xk rfl) (by decide)
    have e60 : a.tmps.getD 60 undef = .tuple #[y, .int .i64 0] := (ev 60 (by decide)).trans h60
    have HK := hid hK
    have HY := hid hy
    clear hK ev hd hy
    go_simp
    exact HK.out _ _ (fun h => by cases h) ⟨hJ1, hJ2, hJ3⟩ (fun _ => by simp [updR, yIs]) ⟨fun h => absurd h (by decide), fun _ => Below.refl _ _⟩
  case fin9 =>
   intro u w4 hJ hG
   obtain ⟨v1, v2, v3, v4, h61, p1, p2, p3, p4⟩ : (ySl w2.heap.size hA d).holds (u 61) w4 := (hG 9 _ rfl) (by decide)
   have h62 : u 62 = .int .i64 0 := (hG 10 _ rfl) (by decide)
   have hb4 := hJ.1
   have hB4 := below_via hb4 HB1.out HB1.out.size
   have hz_w4 := hb4.size
   try simp only [World.size_alloc, World.size_setCell] at hz_w4
   have hh := bc6 hb4 ⟨c_t0, c_t1, c_t2, c_t3, c_t4, c_t5⟩
   clear c_t0 c_t1 c_t2 c_t3 c_t4 c_t5
   obtain ⟨c_t0, c_t1, c_t2, c_t3, c_t4, c_t5⟩ := hh
   replace z_t := blt hb4 z_t
   have hh := bc2 hb4 ⟨c_p0, c_p1⟩
   clear c_p0 c_p1
   obtain ⟨c_p0, c_p1⟩ := hh
   replace z_p := blt hb4 z_p
   have hh := bc6 hb4 ⟨c_r0, c_r1, c_r2, c_r3, c_r4, c_r5⟩
   clear c_r0 c_r1 c_r2 c_r3 c_r4 c_r5
   obtain ⟨c_r0, c_r1, c_r2, c_r3, c_r4, c_r5⟩ := hh
   have hh := bf6 hb4 z_r ⟨f_r0, f_r1, f_r2, f_r3, f_r4, f_r5⟩
   clear f_r0 f_r1 f_r2 f_r3 f_r4 f_r5
   obtain ⟨f_r0, f_r1, f_r2, f_r3, f_r4, f_r5⟩ := hh
   replace z_r := blt hb4 z_r
   have hz21 := HC2.out.size
   obtain ⟨a1, k1, rfl, -, -, -, -, -⟩ := row_of_owns p1
   obtain ⟨a2, k2, rfl, -, -, -, -, -⟩ := row_of_owns p2
   obtain ⟨a3, k3, rfl, -, -, -, -, -⟩ := row_of_owns p3
   obtain ⟨a4, k4, rfl, -, -, -, -, -⟩ := row_of_owns p4
   have HP := hid (And.intro p1 (And.intro p2 (And.intro p3 p4)))
   clear p1 p2 p3 p4 hb4 hG hJ
   have hz1 : w.heap.size + 1 + 1 < w2.heap.size := xo
   simp only [mixFrame, mixL, dstsOf, List.take_succ_cons, List.take_zero, List.filterMap_cons, List.filterMap_nil, List.contains_cons, List.contains_nil, Nat.reduceBEq, Bool.or_false, Bool.false_or, Bool.or_true, Bool.true_or, if_true, if_false, Bool.false_eq_true, Nat.reduceAdd, Nat.zero_add, List.drop_succ_cons, List.drop_zero, h61, h62]
   go_wp2
   have HC := hid (six_some ⟨c_r0, c_r1, c_r2, c_r3, c_r4, c_r5⟩)
   refine bodyPost_ret (results_ct rfl rfl (run_loadVar_many _ Tryd.underlying29 rfl xk (setCs_all (W := w4) (b := w.heap.size + 1 + 1) (l := [.int .i64 d.seg, .slice a1 d.ws.length k1, .slice a2 d.ks.length k2, .slice a3 d.vs.length k3, .slice a4 d.cs.length k4, .int .u64 d.laid]) HC.out))) rfl ⟨_, _, _, _, rfl, ?_, ?_, ?_, ?_, ?_⟩
   · exact owns_base (setCs_owns (b := w.heap.size + 1 + 1) (i := 0) hz1 [.int .i64 d.seg, .slice a1 d.ws.length k1, .slice a2 d.ks.length k2, .slice a3 d.vs.length k3, .slice a4 d.cs.length k4, .int .u64 d.laid] HP.out.1) xo
   · exact owns_base (setCs_owns (b := w.heap.size + 1 + 1) (i := 0) hz1 [.int .i64 d.seg, .slice a1 d.ws.length k1, .slice a2 d.ks.length k2, .slice a3 d.vs.length k3, .slice a4 d.cs.length k4, .int .u64 d.laid] HP.out.2.1) xo
   · exact owns_base (setCs_owns (b := w.heap.size + 1 + 1) (i := 0) hz1 [.int .i64 d.seg, .slice a1 d.ws.length k1, .slice a2 d.ks.length k2, .slice a3 d.vs.length k3, .slice a4 d.cs.length k4, .int .u64 d.laid] HP.out.2.2.1) xo
   · exact owns_base (setCs_owns (b := w.heap.size + 1 + 1) (i := 0) hz1 [.int .i64 d.seg, .slice a1 d.ws.length k1, .slice a2 d.ks.length k2, .slice a3 d.vs.length k3, .slice a4 d.cs.length k4, .int .u64 d.laid] HP.out.2.2.2) xo
   · exact setCs_below (b := w.heap.size + 1 + 1) xo [.int .i64 d.seg, .slice a1 d.ws.length k1, .slice a2 d.ks.length k2, .slice a3 d.vs.length k3, .slice a4 d.cs.length k4, .int .u64 d.laid] _ 0 hB4
end
end Go.Proofs.YtookgoidlnlckaaDoor

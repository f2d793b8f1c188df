/- Merged: GcPart, GkTr, OccNx, OccNth. -/
import Derived.Test.YtookgoidlnlckaaDoorGapCostP20
import Derived.Test.YtookgoidlnlckaaDoorGapCostP19
import Derived.Test.YtookgoidlnlckaaDoorGapCostP21
import Derived.Test.YtookgoidlnlckaaDoorGapCostP2
import Derived.Test.YtookgoidlnlckaaDoorGapCostP5
namespace Go.Proofs.YtookgoidlnlckaaDoor
set_option maxRecDepth 100000
set_option maxHeartbeats 40000000
set_option linter.unusedVariables false
set_option linter.unusedSimpArgs false
section
open Go.RowKit Go.Shelf Go.Sort
def fndReg (n : Nat) : Code → Option Code
  | .region k ops d => if k = n then some (.region k ops d) else none
  | .seq a b => match fndReg n a with
    | some c => some c
    | none => fndReg n b
  | .block _ c => fndReg n c
  | .scope c => fndReg n c
  | .loop c => fndReg n c
  | .cond _ a b => match fndReg n a with
    | some c => some c
    | none => fndReg n b
  | _ => none
noncomputable def partReg10 : Code := (Tryd.f11.body.bind (fndReg 10)).getD .skip
theorem GC_r10 (W : World) (ds : List Deferred) (r0 r1 r2 r4 r5 r6 r7 r8 r9 r10 r11 r12 r13 r14 r15 r20 r21 r22 r23 r24 r25 r26 r27 r28 r29 r30 r31 r32 r33 r34 r35 r36 r37 r38 r39 r40 r41 r42 r43 r44 r45 r46 r47 r48 r49 r50 r51 r52 r53 r54 r55 r56 r57 r58 r59 r60 r61 r62 r63 r64 r65 r66 r67 r68 r69 r70 r71 r72 r73 r74 r75 r76 r77 r78 r79 r80 r81 r82 r83 r84 r85 r86 r87 r88 r89 r90 r91 r92 r93 r94 r95 r96 r97 r98 r99 r100 r101 r102 r103 r104 r105 r106 r107 r108 r109 r110 r111 r112 r113 r114 r115 r116 r117 r118 r119 r120 r121 r122 r123 r124 r125 r126 r127 r128 r129 r130 r131 r132 r133 r134 r135 r136 r137 r138 r139 : Value) (mo fe : Int) (f sp q : Bool) (hmo : mo = 1 ∨ mo = 0) (h1 : mo = 1 → fe ≠ 0 → q = true) (h2 : mo = 1 → fe = 0 → q = !f) (h3 : mo = 0 → q = !sp) :
    Code.wp Tryd.prog partReg10 (Exit.then (fun a' w' => Below W.heap.size W w' ∧ ∃ u81 u82 u83 u84 u85 u86 u87 u88 u89 u90 u91 u92 u93 u94 u95 u96 u97 u98 u99 u100 u101 u102 : Value, a' = { tmps := List.toArray (r0 :: r1 :: r2 :: .int .i64 mo :: r4 :: r5 :: r6 :: r7 :: r8 :: r9 :: r10 :: r11 :: r12 :: r13 :: r14 :: r15 :: .bool f :: .int .i64 fe :: .bool sp :: .int .i64 0 :: .bool q :: r21 :: r22 :: r23 :: r24 :: r25 :: r26 :: r27 :: r28 :: r29 :: r30 :: r31 :: r32 :: r33 :: r34 :: r35 :: r36 :: r37 :: r38 :: r39 :: r40 :: r41 :: r42 :: r43 :: r44 :: r45 :: r46 :: r47 :: r48 :: r49 :: r50 :: r51 :: r52 :: r53 :: r54 :: r55 :: r56 :: r57 :: r58 :: r59 :: r60 :: r61 :: r62 :: r63 :: r64 :: r65 :: r66 :: r67 :: r68 :: r69 :: r70 :: r71 :: r72 :: r73 :: r74 :: r75 :: r76 :: r77 :: r78 :: r79 :: r80 :: u81 :: u82 :: u83 :: u84 :: u85 :: u86 :: u87 :: u88 :: u89 :: u90 :: u91 :: u92 :: u93 :: u94 :: u95 :: u96 :: u97 :: u98 :: u99 :: u100 :: u101 :: u102 :: r103 :: r104 :: r105 :: r106 :: r107 :: r108 :: r109 :: r110 :: r111 :: r112 :: r113 :: r114 :: r115 :: r116 :: r117 :: r118 :: r119 :: r120 :: r121 :: r122 :: r123 :: r124 :: r125 :: r126 :: r127 :: r128 :: r129 :: r130 :: r131 :: r132 :: r133 :: r134 :: r135 :: r136 :: r137 :: r138 :: r139 :: []), defers := ds }) (fun _ _ _ => False)) { tmps := List.toArray (r0 :: r1 :: r2 :: .int .i64 mo :: r4 :: r5 :: r6 :: r7 :: r8 :: r9 :: r10 :: r11 :: r12 :: r13 :: r14 :: r15 :: .bool f :: .int .i64 fe :: .bool sp :: .int .i64 0 :: r20 :: r21 :: r22 :: r23 :: r24 :: r25 :: r26 :: r27 :: r28 :: r29 :: r30 :: r31 :: r32 :: r33 :: r34 :: r35 :: r36 :: r37 :: r38 :: r39 :: r40 :: r41 :: r42 :: r43 :: r44 :: r45 :: r46 :: r47 :: r48 :: r49 :: r50 :: r51 :: r52 :: r53 :: r54 :: r55 :: r56 :: r57 :: r58 :: r59 :: r60 :: r61 :: r62 :: r63 :: r64 :: r65 :: r66 :: r67 :: r68 :: r69 :: r70 :: r71 :: r72 :: r73 :: r74 :: r75 :: r76 :: r77 :: r78 :: r79 :: r80 :: r81 :: r82 :: r83 :: r84 :: r85 :: r86 :: r87 :: r88 :: r89 :: r90 :: r91 :: r92 :: r93 :: r94 :: r95 :: r96 :: r97 :: r98 :: r99 :: r100 :: r101 :: r102 :: r103 :: r104 :: r105 :: r106 :: r107 :: r108 :: r109 :: r110 :: r111 :: r112 :: r113 :: r114 :: r115 :: r116 :: r117 :: r118 :: r119 :: r120 :: r121 :: r122 :: r123 :: r124 :: r125 :: r126 :: r127 :: r128 :: r129 :: r130 :: r131 :: r132 :: r133 :: r134 :: r135 :: r136 :: r137 :: r138 :: r139 :: []), defers := ds } W := by
 rcases hmo with rfl | rfl
 · by_cases h : fe = 0
   · subst h
     have e := h2 rfl rfl
     subst e
     clear h1 h2 h3
     conv => arg 2; whnf
     cases f with
     | true =>
      go_wp2
      exact ⟨Below.refl _ _, _, _, _, _, _, _, _, _, _, _, _, _, _, _, _, _, _, _, _, _, _, _, rfl⟩
     | false =>
      go_wp2
      exact ⟨Below.refl _ _, _, _, _, _, _, _, _, _, _, _, _, _, _, _, _, _, _, _, _, _, _, _, rfl⟩
   · have e := h1 rfl h
     subst e
     have g1 : (fe != 0) = true := by simpa using h
     clear h1 h2 h3 h
     conv => arg 2; whnf
     go_wp2
     exact ⟨Below.refl _ _, _, _, _, _, _, _, _, _, _, _, _, _, _, _, _, _, _, _, _, _, _, _, rfl⟩
 · have e := h3 rfl
   subst e
   clear h1 h2 h3
   conv => arg 2; whnf
   cases sp with
   | true =>
    go_wp2
    exact ⟨Below.refl _ _, _, _, _, _, _, _, _, _, _, _, _, _, _, _, _, _, _, _, _, _, _, _, rfl⟩
   | false =>
    go_wp2
    exact ⟨Below.refl _ _, _, _, _, _, _, _, _, _, _, _, _, _, _, _, _, _, _, _, _, _, _, _, rfl⟩
def PartR (a at_ H : Nat) (mo t x y : Int) (z : Bool) : Prop :=
  (t = H ∧ x = 0 ∧ y = 0 ∧ z = false) ∨ (t = -1 ∧ mo = 0 ∧ x = at_ ∧ y = at_ ∧ z = true) ∨ (∃ h : Nat, h ≤ H ∧ t + 1 = h ∧ (t = -1 → mo = 1) ∧ x = ((wnd a h at_ * 2 ^ (a + h) : Nat) : Int) ∧ y = ((wnd a h at_ * 2 ^ (a + h) : Nat) : Int) + ((2 ^ (a + h) : Nat) : Int) ∧ z = true)
def PartP (w : World) (a at_ H : Nat) (mo t : Int) (e : Ending) (w' : World) : Prop := ∃ x y z, e = .returned (.tuple #[.int .i64 x, .int .i64 y, .bool z]) ∧ PartR a at_ H mo t x y z ∧ Below w.heap.size w w'
theorem part_core (c : Cfg) (seg : Int) (wa ka va ca : Option Addr) (wc kc vc cc lw n lv lc : Nat) (laid : Int) (a H at_ : Nat) (mo : Int) (hmo : mo = 1 ∨ mo = 0) (hH : H ≤ 14) (p : Nat → Bool) (m : Nat → Int) (hm : ∀ h, h ≤ H → 0 ≤ m h ∧ m h ≤ 65536) (w : World)
    (PA : Hid (∀ W, Below w.heap.size w W → Calls Tryd.prog 34 #[.int .i64 c.seg, .int .i64 n, .int .i64 at_] W (FreshW2 W (winsL a at_ (H + 1)) (.int .i64 0))))
    (CN : Hid (∀ h : Nat, h ≤ H → ∀ W, Below w.heap.size w W → Calls Tryd.prog 12 #[.slice wa lw wc, .int .i64 n, .int .i64 ((wnd a h at_ * 2 ^ (a + h) : Nat) : Int), .int .i64 (((wnd a h at_ * 2 ^ (a + h) : Nat) : Int) + ((2 ^ (a + h) : Nat) : Int))] W (AnsB W (.tuple #[.int .i64 (m h), .int .i64 0]))))
    (FU : Hid (∀ h : Nat, h ≤ H → ∃ (f : Bool) (fe : Int), (mo = 1 → fe ≠ 0 → p h = true) ∧ (mo = 1 → fe = 0 → p h = !f) ∧ ∀ W, Below w.heap.size w W → Calls Tryd.prog 23 #[.agg #[.int .u8 c.tag, .int .i64 c.most, .int .i64 c.seg, .int .i64 c.least, .int .i64 c.den, .int .i64 c.ll, .int .i64 c.rl, .int .i64 c.rh, .int .i64 c.lh], .int .i64 n, .int .i64 h, .int .i64 (m h + mo)] W (AnsB W (.tuple #[.bool f, .int .i64 fe]))))
    (SA : Hid (∀ h : Nat, h ≤ H → ∃ sp : Bool, (mo = 0 → p h = !sp) ∧ ∀ W, Below w.heap.size w W → Calls Tryd.prog 35 #[.agg #[.int .u8 c.tag, .int .i64 c.most, .int .i64 c.seg, .int .i64 c.least, .int .i64 c.den, .int .i64 c.ll, .int .i64 c.rl, .int .i64 c.rh, .int .i64 c.lh], .int .i64 n, .int .i64 h, .int .i64 (m h)] W (AnsB W (.tuple #[.bool sp, .int .i64 0])))) :
    Calls Tryd.prog 11 #[.agg #[.int .u8 c.tag, .int .i64 c.most, .int .i64 c.seg, .int .i64 c.least, .int .i64 c.den, .int .i64 c.ll, .int .i64 c.rl, .int .i64 c.rh, .int .i64 c.lh], .agg #[.int .i64 seg, .slice wa lw wc, .slice ka n kc, .slice va lv vc, .slice ca lc cc, .int .u64 laid], .int .i64 at_, .int .i64 mo] w (PartP w a at_ H mo (topI p (H + 1))) := by
 have HWL := hid (winsL_length a at_ (H + 1))
 have HWG := hid (fun i (h : i < H + 1) => winsL_get (a := a) (at_ := at_) h)
 have HM := hid hm
 have HMO := hid hmo
 clear hm hmo
 go_enter Tryd.func11, Tryd.ntmps11
 go_wp2_with fail
 refine (PA.out _ xbel).mono ?_
 rintro e w1 ⟨v1, rfl, ho1, hb1⟩
 have hz_w1 := hb1.size
 try simp only [World.size_alloc, World.size_setCell] at hz_w1
 have hh := bc9 hb1 (au9 (al9 (b := w.heap.size) (by simp)))
 obtain ⟨c_m0, c_m1, c_m2, c_m3, c_m4, c_m5, c_m6, c_m7, c_m8⟩ := hh
 have z_m := blt hb1 (auz (alz (b := w.heap.size) (by simp)))
 have hh := bc6 hb1 (al6 (b := w.heap.size + 1) (by simp))
 obtain ⟨c_t0, c_t1, c_t2, c_t3, c_t4, c_t5⟩ := hh
 have z_t := blt hb1 (alz (b := w.heap.size + 1) (by simp))
 have hB1 : Below w.heap.size w w1 := xbel
 have HB1 := hid hB1
 have hz1 := hB1.size
 obtain ⟨ra, rc, rfl, hi1, -, -, hrc, -⟩ := row_of_owns ho1
 rw [HWL.out] at hrc ⊢
 have hw1 : IntKind.i64.wrap (((H + 1 : Nat) : Int) - 1) = ((H + 1 : Nat) : Int) - 1 := IntWalk.i64_in _ xo
 have hl2 : 2 ≤ (prI (winsL a at_ (H + 1))).length := by rw [prI_length, HWL.out]; omega
 have HR1 := hid hi1
 clear hb1 hB1 ho1 hi1
 go_wp2
 go_loopg [13] (H + 1) (fun gk iv wr => gk ≤ H + 1 ∧ iv = .int .i64 ((gk : Int) - 1) ∧ Hid (topI p (H + 1) = topI p gk) ∧ Hid (Below w1.heap.size w1 wr))
 case atStart => exact ⟨Nat.le_refl _, by first | rfl | (congr 1; done) | (congr 1; omega) | (congr 1; rw [hw1]), hid rfl, hid (Below.refl _ _)⟩
 case round =>
  obtain ⟨hg, rfl, HT, HB⟩ := hrel
  have hbr := HB.out
  have hz_wr := hbr.size
  try simp only [World.size_alloc, World.size_setCell] at hz_wr
  have hh := bc9 hbr ⟨c_m0, c_m1, c_m2, c_m3, c_m4, c_m5, c_m6, c_m7, c_m8⟩
  clear c_m0 c_m1 c_m2 c_m3 c_m4 c_m5 c_m6 c_m7 c_m8
  obtain ⟨c_m0, c_m1, c_m2, c_m3, c_m4, c_m5, c_m6, c_m7, c_m8⟩ := hh
  replace z_m := blt hbr z_m
  have hh := bc6 hbr ⟨c_t0, c_t1, c_t2, c_t3, c_t4, c_t5⟩
  clear c_t0 c_t1 c_t2 c_t3 c_t4 c_t5
  obtain ⟨c_t0, c_t1, c_t2, c_t3, c_t4, c_t5⟩ := hh
  replace z_t := blt hbr z_t
  have HB2 := hid (below_via hbr HB1.out hz1)
  rcases Nat.eq_zero_or_pos gk with rfl | hg0
  · have d1 : decide ((0 : Int) ≤ ((0 : Nat) : Int) - 1) = false := by decide
    have HV := hid (HT.out.trans (topI_zero p))
    rcases HMO.out with rfl | rfl
    · obtain ⟨pb, po, lo, hi, rfl, hx, hy, hc0, hc1, hpb⟩ := HR1.out.get2 (i := 0) (by rw [prI_length, HWL.out]; omega)
      have hpr := prI_get (l := winsL a at_ (H + 1)) (i := 0) (by rw [HWL.out]; omega)
      rw [HWG.out 0 xo] at hpr
      have HXY := hid (And.intro (hx.out.symm.trans hpr.1) (hy.out.symm.trans hpr.2))
      rw [Nat.zero_mul, Nat.add_zero] at hc0 hc1
      have k0 := (hbr.cell (p := ⟨pb, po, none⟩) hpb).trans hc0
      have k1 := (hbr.cell (p := ⟨pb, po + 1, none⟩) hpb).trans hc1
      have hlt0 : (0 : Nat) < H + 1 := xo
      clear hbr hx hy hc0 hc1 hpr
      go_upto_region 17 with (fail)
      have q0 := cell_regrown k0
      have q1 := cell_regrown k1
      refine wp_region_quiet_below xk xk ?_
      repeat (first | go_big_quiet_skip | (go_big_quiet_want; (first | refine quiet_exec (.pointer (some ⟨pb, po, none⟩)) (fun w9 => exec_index0 (w := w9) 59 58 (.tmp 132) (.const (.int .i64 0)) 2 pb po (H + 1) rc rfl Tryd.underlying59 xk rfl rfl hlt0) ?_ | refine quiet_exec (.pointer (some ⟨pb, po, none⟩)) (fun w9 => exec_index0 (w := w9) 59 58 (.tmp 136) (.const (.int .i64 0)) 2 pb po (H + 1) rc rfl Tryd.underlying59 xk rfl rfl hlt0) ?_); (conv => arg 1; simp only [Act.put, List.setIfInBounds_toArray, List.set_cons_succ, List.set_cons_zero]); go_big_quiet_on) | go_big_quiet_step (fail))
      refine wpQuiet_nil ?_
      intro _ hw'
      obtain ⟨⟨dq, osq⟩, hw''⟩ := hw'
      subst hw''
      have hbq := below_regrown wr dq osq
      clear q0 q1
      generalize Sort.grow (redrawn wr dq) osq = wx at *
      have HB3 := xv hbq HB2
      clear hbq
      go_wp2
      exact bodyPost_ret (results_tmp3 rfl _ _ _) rfl ⟨_, _, _, rfl, by rw [HV.out]; exact .inr (.inr ⟨0, Nat.zero_le _, by omega, fun _ => rfl, HXY.out.1, HXY.out.2, rfl⟩), HB3.out⟩
    · clear hbr
      go_wp2
      exact bodyPost_ret (results_tmp3 rfl _ _ _) rfl ⟨_, _, _, rfl, by rw [HV.out]; exact .inr (.inl ⟨rfl, rfl, rfl, rfl, rfl⟩), HB2.out⟩
  · obtain ⟨h, rfl⟩ : ∃ h, gk = h + 1 := ⟨gk - 1, by omega⟩
    have e1 : (((h + 1 : Nat) : Int) - 1) = (h : Int) := xo
    rw [e1]
    have hhH : h ≤ H := xo
    have CN2 := hid (CN.out h hhH)
    obtain ⟨f, fe, hf1, hf2, FU2'⟩ := FU.out h hhH
    obtain ⟨sp, hs1, SA2'⟩ := SA.out h hhH
    have FU2 := hid FU2'
    have SA2 := hid SA2'
    have HF := hid (And.intro hf1 (And.intro hf2 hs1))
    have hmh := HM.out h hhH
    have hmw : IntKind.i64.wrap (m h + mo) = m h + mo := IntWalk.i64_in _ (by have := HMO.out; omega)
    have hsub : IntKind.i64.wrap ((h : Int) - 1) = (h : Int) - 1 := IntWalk.i64_in _ xo
    have hadd : IntKind.i64.wrap ((h : Int) + 1) = ((h + 1 : Nat) : Int) := by rw [IntWalk.i64_in _ xo]; omega
    have TY := hid (fun (q : p h = true) => topI_yes q)
    have TN := hid (fun (q : p h = false) => topI_no q)
    obtain ⟨pb, po, lo, hi, rfl, hx, hy, hc0, hc1, hpb⟩ := HR1.out.get2 (i := h) (by rw [prI_length, HWL.out]; omega)
    have hpr := prI_get (l := winsL a at_ (H + 1)) (i := h) (by rw [HWL.out]; omega)
    rw [HWG.out h xo] at hpr
    have ex : ((wnd a h at_ * 2 ^ (a + h) : Nat) : Int) = lo := by rw [← hx.out]; exact hpr.1.symm
    have ey : ((wnd a h at_ * 2 ^ (a + h) : Nat) : Int) + ((2 ^ (a + h) : Nat) : Int) = hi := by rw [← hy.out]; exact hpr.2.symm
    rw [ey, ex] at CN2
    have k0 := (hbr.cell (p := ⟨pb, po + h * 2, none⟩) hpb).trans hc0
    have k1 := (hbr.cell (p := ⟨pb, po + h * 2 + 1, none⟩) hpb).trans hc1
    have hltk : h < H + 1 := xo
    generalize m h = mh at *
    obtain ⟨q, hq⟩ : ∃ q, p h = q := ⟨_, rfl⟩
    rw [hq] at TY TN HF
    clear hbr e1 ex ey hx hy hc0 hc1 hpr FU2' SA2' hf1 hf2 hs1 hmh
    go_upto_region 7 with (fail)
    have K0 := hid (fun d os => Calls.regrown_of (w := wr) (d := d) (os := os) (CN2.out (grow (redrawn wr d) os) (below_via (below_regrown wr d os) HB2.out HB2.out.size)))
    have q0 := cell_regrown k0
    have q1 := cell_regrown k1
    have q2 := cell_regrown c_t0
    have q3 := cell_regrown c_t1
    have q4 := cell_regrown c_t2
    have q5 := cell_regrown c_t3
    have q6 := cell_regrown c_t4
    have q7 := cell_regrown c_t5
    refine wp_region_quiet_below xk xk ?_
    repeat (first | go_big_quiet_skip | (go_big_quiet_want; (first | refine quiet_exec (.pointer (some ⟨pb, po + h * 2, none⟩)) (fun w9 => exec_index (w := w9) 59 58 (.tmp 46) (.tmp 47) 2 pb po (H + 1) rc h rfl Tryd.underlying59 xk rfl rfl hltk) ?_ | refine quiet_exec (.pointer (some ⟨pb, po + h * 2, none⟩)) (fun w9 => exec_index (w := w9) 59 58 (.tmp 51) (.tmp 52) 2 pb po (H + 1) rc h rfl Tryd.underlying59 xk rfl rfl hltk) ?_); (conv => arg 1; simp only [Act.put, List.setIfInBounds_toArray, List.set_cons_succ, List.set_cons_zero]); go_big_quiet_on) | go_big_quiet_step (first | with_reducible exact K0.out _ _ | exact K0.out _ _))
    refine wpQuiet_nil ?_
    intro _ hw'
    obtain ⟨⟨dq, osq⟩, hw''⟩ := hw'
    subst hw''
    have hbq := below_regrown wr dq osq
    clear q0 q1 q2 q3 q4 q5 q6 q7 K0
    generalize Sort.grow (redrawn wr dq) osq = w2 at *
    have HB3 := xv hbq HB2
    have HC3 := xv hbq HB
    have hz_w2 := hbq.size
    try simp only [World.size_alloc, World.size_setCell] at hz_w2
    have hh := bc9 hbq ⟨c_m0, c_m1, c_m2, c_m3, c_m4, c_m5, c_m6, c_m7, c_m8⟩
    clear c_m0 c_m1 c_m2 c_m3 c_m4 c_m5 c_m6 c_m7 c_m8
    obtain ⟨c_m0, c_m1, c_m2, c_m3, c_m4, c_m5, c_m6, c_m7, c_m8⟩ := hh
    replace z_m := blt hbq z_m
    have hh := bc6 hbq ⟨c_t0, c_t1, c_t2, c_t3, c_t4, c_t5⟩
    clear c_t0 c_t1 c_t2 c_t3 c_t4 c_t5
    obtain ⟨c_t0, c_t1, c_t2, c_t3, c_t4, c_t5⟩ := hh
    replace z_t := blt hbq z_t
    clear hbq k0 k1
    go_wp2_with fail
    refine (FU2.out _ HB3.out).mono ?_
    rintro e w3 ⟨rfl, hb3⟩
    have hz_w3 := hb3.size
    try simp only [World.size_alloc, World.size_setCell] at hz_w3
    have hh := bc9 hb3 ⟨c_m0, c_m1, c_m2, c_m3, c_m4, c_m5, c_m6, c_m7, c_m8⟩
    clear c_m0 c_m1 c_m2 c_m3 c_m4 c_m5 c_m6 c_m7 c_m8
    obtain ⟨c_m0, c_m1, c_m2, c_m3, c_m4, c_m5, c_m6, c_m7, c_m8⟩ := hh
    replace z_m := blt hb3 z_m
    have hh := bc6 hb3 ⟨c_t0, c_t1, c_t2, c_t3, c_t4, c_t5⟩
    clear c_t0 c_t1 c_t2 c_t3 c_t4 c_t5
    obtain ⟨c_t0, c_t1, c_t2, c_t3, c_t4, c_t5⟩ := hh
    replace z_t := blt hb3 z_t
    have HB4 := xv hb3 HB3
    have HC4 := xv hb3 HC3
    clear hb3
    go_wp2_with fail
    refine (SA2.out _ HB4.out).mono ?_
    rintro e w4 ⟨rfl, hb4⟩
    have hz_w4 := hb4.size
    try simp only [World.size_alloc, World.size_setCell] at hz_w4
    have hh := bc9 hb4 ⟨c_m0, c_m1, c_m2, c_m3, c_m4, c_m5, c_m6, c_m7, c_m8⟩
    clear c_m0 c_m1 c_m2 c_m3 c_m4 c_m5 c_m6 c_m7 c_m8
    obtain ⟨c_m0, c_m1, c_m2, c_m3, c_m4, c_m5, c_m6, c_m7, c_m8⟩ := hh
    replace z_m := blt hb4 z_m
    have hh := bc6 hb4 ⟨c_t0, c_t1, c_t2, c_t3, c_t4, c_t5⟩
    clear c_t0 c_t1 c_t2 c_t3 c_t4 c_t5
    obtain ⟨c_t0, c_t1, c_t2, c_t3, c_t4, c_t5⟩ := hh
    replace z_t := blt hb4 z_t
    have HB5 := xv hb4 HB4
    have HC5 := xv hb4 HC4
    clear hb4
    go_upto_region 10 with (fail)
    refine Code.wp_mono ?_ (GC_r10 w4 _ _ _ _ _ _ _ _ _ _ _ _ _ _ _ _ _ _ _ _ _ _ _ _ _ _ _ _ _ _ _ _ _ _ _ _ _ _ _ _ _ _ _ _ _ _ _ _ _ _ _ _ _ _ _ _ _ _ _ _ _ _ _ _ _ _ _ _ _ _ _ _ _ _ _ _ _ _ _ _ _ _ _ _ _ _ _ _ _ _ _ _ _ _ _ _ _ _ _ _ _ _ _ _ _ _ _ _ _ _ _ _ _ _ _ _ _ _ _ _ _ _ _ _ _ _ _ _ _ _ _ _ _ _ _ _ mo fe f sp q HMO.out HF.out.1 HF.out.2.1 HF.out.2.2)
    intro e a' wq hw
    cases e with
    | exit id => exact hw.elim
    | goto l => exact hw.elim
    | ret => exact hw.elim
    | panic ch => exact hw.elim
    | outgrown => exact hw.elim
    | normal =>
    obtain ⟨hb6, u81, u82, u83, u84, u85, u86, u87, u88, u89, u90, u91, u92, u93, u94, u95, u96, u97, u98, u99, u100, u101, u102, rfl⟩ := hw
    replace HB5 := xv hb6 HB5
    replace HC5 := xv hb6 HC5
    clear hb6
    by_cases hhe : h = H
    · have b1 : ((h : Int) == ((H + 1 : Nat) : Int) - 1) = true := by rw [beq_iff_eq]; omega
      cases q with
      | true =>
       have HV := hid (HT.out.trans (TY.out rfl))
       go_wp2
       exact bodyPost_ret (results_tmp3 rfl _ _ _) rfl ⟨_, _, _, rfl, by rw [HV.out]; exact .inl ⟨by omega, rfl, rfl, rfl⟩, HB5.out⟩
      | false =>
       have HV := hid (HT.out.trans (TN.out rfl))
       clear TY TN
       go_wp2
       go_roundg h
       case measure => omega
       case rel => exact ⟨by omega, by first | rfl | rw [hsub] | go_num, HV, HC5⟩
    · have b1 : ((h : Int) == ((H + 1 : Nat) : Int) - 1) = false := by rw [beq_eq_false_iff_ne]; omega
      cases q with
      | true =>
       have HV := hid (HT.out.trans (TY.out rfl))
       obtain ⟨pb2, po2, lo2, hi2, hee, hx, hy, hc0, hc1, hpb⟩ := HR1.out.get2 (i := h + 1) (by rw [prI_length, HWL.out]; omega)
       cases hee
       have hpr := prI_get (l := winsL a at_ (H + 1)) (i := h + 1) (by rw [HWL.out]; omega)
       rw [HWG.out (h + 1) xo] at hpr
       have HXY := hid (And.intro (hx.out.symm.trans hpr.1) (hy.out.symm.trans hpr.2))
       have hb5 := HC5.out
       have k0 := (hb5.cell (p := ⟨pb, po + (h + 1) * 2, none⟩) hpb).trans hc0
       have k1 := (hb5.cell (p := ⟨pb, po + (h + 1) * 2 + 1, none⟩) hpb).trans hc1
       have hlt1 : h + 1 < H + 1 := xo
       clear hx hy hc0 hc1 hpr hb5
       go_upto_region 14 with (fail)
       have q0 := cell_regrown k0
       have q1 := cell_regrown k1
       refine wp_region_quiet_below xk xk ?_
       repeat (first | go_big_quiet_skip | (go_big_quiet_want; (first | refine quiet_exec (.pointer (some ⟨pb, po + (h + 1) * 2, none⟩)) (fun w9 => exec_index (w := w9) 59 58 (.tmp 116) (.tmp 118) 2 pb po (H + 1) rc (h + 1) rfl Tryd.underlying59 xk rfl rfl hlt1) ?_ | refine quiet_exec (.pointer (some ⟨pb, po + (h + 1) * 2, none⟩)) (fun w9 => exec_index (w := w9) 59 58 (.tmp 122) (.tmp 124) 2 pb po (H + 1) rc (h + 1) rfl Tryd.underlying59 xk rfl rfl hlt1) ?_); (conv => arg 1; simp only [Act.put, List.setIfInBounds_toArray, List.set_cons_succ, List.set_cons_zero]); go_big_quiet_on) | go_big_quiet_step (fail))
       refine wpQuiet_nil ?_
       intro _ hw'
       obtain ⟨⟨dq, osq⟩, hw''⟩ := hw'
       subst hw''
       have hbq := below_regrown wq dq osq
       clear q0 q1
       generalize Sort.grow (redrawn wq dq) osq = wx at *
       have HB6 := xv hbq HB5
       clear hbq
       go_wp2
       exact bodyPost_ret (results_tmp3 rfl _ _ _) rfl ⟨_, _, _, rfl, by rw [HV.out]; exact .inr (.inr ⟨h + 1, by omega, by omega, fun q => by omega, HXY.out.1, HXY.out.2, rfl⟩), HB6.out⟩
      | false =>
       have HV := hid (HT.out.trans (TN.out rfl))
       clear TY TN
       go_wp2
       go_roundg h
       case measure => omega
       case rel => exact ⟨by omega, by first | rfl | rw [hsub] | go_num, HV, HC5⟩
end
section
open Go.RowKit Go.Shelf Go.Sort
noncomputable def costReg7 : Code := (Tryd.f3.body.bind (fndReg 7)).getD .skip
theorem GK_r7 (W : World) (ds : List Deferred) (r0 r1 r3 r4 r6 r7 r8 r9 r11 r12 r13 r14 r15 r16 r17 r18 r19 r20 r21 r22 r23 r24 r25 r26 r27 r28 r29 r30 r31 r32 r33 r34 r35 r36 r37 r38 r39 r40 r41 r42 r43 r44 r45 r46 r47 r48 r49 r50 r51 r52 r53 r54 r55 r56 r57 r58 r59 r60 r61 r62 r63 r64 r65 r66 r67 r68 r69 r70 r71 r72 r73 r74 r75 r76 r77 r78 r79 r80 r81 r82 r83 r84 r85 r86 r87 r88 r89 r90 r91 r92 r93 r94 r95 r96 r97 r98 r99 r100 r101 r102 r103 r104 r105 r106 r107 r108 r109 r110 r111 r112 r113 r114 r115 r116 r117 r118 r119 r120 r121 r122 r123 r124 r125 r126 r127 r128 r129 r130 r131 r132 r133 r134 r135 r136 r137 r138 r139 r140 r141 r142 r143 r144 r145 r146 r147 r148 r149 r150 r151 r152 r153 r154 r155 r156 r157 r158 r159 r160 r161 r162 r163 r164 r165 r166 r167 r168 r169 r170 r171 r172 r173 r174 r175 r176 r177 r178 r179 r180 r181 r182 r183 r184 : Value) (k n lw wc Bs : Nat) (wa : Option Addr) (at_ ee : Int) (hk : k ≤ 65536) (c_s1 : W.cell? ⟨Bs, 1, none⟩ = some (.slice wa lw wc))
    (NT : Hid (∀ W', Below W.heap.size W W' → Calls Tryd.prog 10 #[.slice wa lw wc, .int .i64 n, .int .i64 ((k - 1 : Nat) : Int)] W' (AnsB W' (.tuple #[.int .i64 at_, .int .i64 ee])))) :
    Code.wp Tryd.prog costReg7 (Exit.then (fun a' w' => Below W.heap.size W w' ∧ ∃ u52 u53 u54 u55 u56 u57 u58 u59 u60 u61 : Value, a' = { tmps := List.toArray (r0 :: r1 :: .int .i64 (k : Nat) :: r3 :: r4 :: .pointer (some ⟨Bs, 0, none⟩) :: r6 :: r7 :: r8 :: r9 :: .int .i64 (n : Nat) :: r11 :: r12 :: .int .i64 at_ :: .int .i64 ee :: r15 :: r16 :: r17 :: r18 :: r19 :: r20 :: r21 :: r22 :: r23 :: r24 :: r25 :: r26 :: r27 :: r28 :: r29 :: r30 :: r31 :: r32 :: r33 :: r34 :: r35 :: r36 :: r37 :: r38 :: r39 :: r40 :: r41 :: r42 :: r43 :: r44 :: r45 :: r46 :: r47 :: r48 :: r49 :: r50 :: r51 :: u52 :: u53 :: u54 :: u55 :: u56 :: u57 :: u58 :: u59 :: u60 :: u61 :: r62 :: r63 :: r64 :: r65 :: r66 :: r67 :: r68 :: r69 :: r70 :: r71 :: r72 :: r73 :: r74 :: r75 :: r76 :: r77 :: r78 :: r79 :: r80 :: r81 :: r82 :: r83 :: r84 :: r85 :: r86 :: r87 :: r88 :: r89 :: r90 :: r91 :: r92 :: r93 :: r94 :: r95 :: r96 :: r97 :: r98 :: r99 :: r100 :: r101 :: r102 :: r103 :: r104 :: r105 :: r106 :: r107 :: r108 :: r109 :: r110 :: r111 :: r112 :: r113 :: r114 :: r115 :: r116 :: r117 :: r118 :: r119 :: r120 :: r121 :: r122 :: r123 :: r124 :: r125 :: r126 :: r127 :: r128 :: r129 :: r130 :: r131 :: r132 :: r133 :: r134 :: r135 :: r136 :: r137 :: r138 :: r139 :: r140 :: r141 :: r142 :: r143 :: r144 :: r145 :: r146 :: r147 :: r148 :: r149 :: r150 :: r151 :: r152 :: r153 :: r154 :: r155 :: r156 :: r157 :: r158 :: r159 :: r160 :: r161 :: r162 :: r163 :: r164 :: r165 :: r166 :: r167 :: r168 :: r169 :: r170 :: r171 :: r172 :: r173 :: r174 :: r175 :: r176 :: r177 :: r178 :: r179 :: r180 :: r181 :: r182 :: r183 :: r184 :: []), defers := ds }) (fun _ _ _ => False)) { tmps := List.toArray (r0 :: r1 :: .int .i64 (k : Nat) :: r3 :: r4 :: .pointer (some ⟨Bs, 0, none⟩) :: r6 :: r7 :: r8 :: r9 :: .int .i64 (n : Nat) :: r11 :: r12 :: r13 :: r14 :: r15 :: r16 :: r17 :: r18 :: r19 :: r20 :: r21 :: r22 :: r23 :: r24 :: r25 :: r26 :: r27 :: r28 :: r29 :: r30 :: r31 :: r32 :: r33 :: r34 :: r35 :: r36 :: r37 :: r38 :: r39 :: r40 :: r41 :: r42 :: r43 :: r44 :: r45 :: r46 :: r47 :: r48 :: r49 :: r50 :: r51 :: r52 :: r53 :: r54 :: r55 :: r56 :: r57 :: r58 :: r59 :: r60 :: r61 :: r62 :: r63 :: r64 :: r65 :: r66 :: r67 :: r68 :: r69 :: r70 :: r71 :: r72 :: r73 :: r74 :: r75 :: r76 :: r77 :: r78 :: r79 :: r80 :: r81 :: r82 :: r83 :: r84 :: r85 :: r86 :: r87 :: r88 :: r89 :: r90 :: r91 :: r92 :: r93 :: r94 :: r95 :: r96 :: r97 :: r98 :: r99 :: r100 :: r101 :: r102 :: r103 :: r104 :: r105 :: r106 :: r107 :: r108 :: r109 :: r110 :: r111 :: r112 :: r113 :: r114 :: r115 :: r116 :: r117 :: r118 :: r119 :: r120 :: r121 :: r122 :: r123 :: r124 :: r125 :: r126 :: r127 :: r128 :: r129 :: r130 :: r131 :: r132 :: r133 :: r134 :: r135 :: r136 :: r137 :: r138 :: r139 :: r140 :: r141 :: r142 :: r143 :: r144 :: r145 :: r146 :: r147 :: r148 :: r149 :: r150 :: r151 :: r152 :: r153 :: r154 :: r155 :: r156 :: r157 :: r158 :: r159 :: r160 :: r161 :: r162 :: r163 :: r164 :: r165 :: r166 :: r167 :: r168 :: r169 :: r170 :: r171 :: r172 :: r173 :: r174 :: r175 :: r176 :: r177 :: r178 :: r179 :: r180 :: r181 :: r182 :: r183 :: r184 :: []), defers := ds } W := by
 rcases Nat.eq_zero_or_pos k with rfl | hk0
 · rw [show ((0 - 1 : Nat) : Int) = 0 from rfl] at NT
   clear hk
   conv => arg 2; whnf
   go_wp2_with fail
   refine (NT.out _ (Below.refl _ _)).mono ?_
   rintro e w1 ⟨rfl, hb1⟩
   have HB1 := hid hb1
   clear hb1
   go_wp2
   exact ⟨HB1.out, _, _, _, _, _, _, _, _, _, _, rfl⟩
 · have hw1 : IntKind.i64.wrap ((k : Int) - 1) = ((k - 1 : Nat) : Int) := by rw [show (k : Int) - 1 = ((k - 1 : Nat) : Int) by omega]; exact IntWalk.i64_in _ xo
   have hlt : ¬ (((k - 1 : Nat) : Int) < 0) := xo
   have hld : decide (((k - 1 : Nat) : Int) < 0) = false := by simp
   generalize k - 1 = k1 at *
   clear hk hk0
   conv => arg 2; whnf
   go_wp2_with fail
   refine (NT.out _ (Below.refl _ _)).mono ?_
   rintro e w1 ⟨rfl, hb1⟩
   have HB1 := hid hb1
   clear hb1
   go_wp2
   exact ⟨HB1.out, _, _, _, _, _, _, _, _, _, _, rfl⟩
end
section
open Go.RowKit Go.Shelf
attribute [local go_sem] Oper.semAt_some
def nx (ws : List Int) (a n : Nat) : Option Nat := (List.range' a (n - a)).find? (bitW ws)
structure NxI (ws : List Int) (a n b0 b1 B : Nat) (w : World) (k : Nat) (W : World) : Prop where
 free : ∀ j, a ≤ j → j < 64 * (a / 64 + k) → j < n → bitW ws j = false
 box0 : W.cell? ⟨b0, 0, none⟩ = some (.int .i64 0)
 box1 : W.cell? ⟨b1, 0, none⟩ = some (.int .i64 0)
 fz0 : W.frozen? ⟨b0, 0, none⟩ = false
 fz1 : W.frozen? ⟨b1, 0, none⟩ = false
 bel : Below B w W
theorem NxI.calm {ws : List Int} {a n b0 b1 B M : Nat} {w : World} {k : Nat} {W W' : World} (h : NxI ws a n b0 b1 B w k W) (hc : Calm M W W') (hB : B ≤ M) : NxI ws a n b0 b1 B w k W' :=
  ⟨h.free, hc.cell h.box0, hc.cell h.box1, hc.frozen h.box0 h.fz0, hc.frozen h.box1 h.fz1, hc.below hB h.bel⟩
structure NxX (ws : List Int) (a n b0 b1 B : Nat) (w : World) (c : Code) (W : World) : Prop where
 code : c = .ret
 hit : ∃ i, nx ws a n = some i ∧ W.cell? ⟨b0, 0, none⟩ = some (.int .i64 i)
 box1 : W.cell? ⟨b1, 0, none⟩ = some (.int .i64 0)
 bel : Below B w W
theorem NxX.calm {ws : List Int} {a n b0 b1 B M : Nat} {w : World} {c : Code} {W W' : World} (h : NxX ws a n b0 b1 B w c W) (hc : Calm M W W') (hB : B ≤ M) : NxX ws a n b0 b1 B w c W' :=
  ⟨h.code, h.hit.imp fun i hi => ⟨hi.1, hc.cell hi.2⟩, hc.cell h.box1, hc.below hB h.bel⟩
end
section
open Go.RowKit Go.Shelf
attribute [local go_sem] Oper.semAt_some
structure NthI (ws : List Int) (n t b0 b1 B : Nat) (w : World) (k : Nat) (W : World) : Prop where
 le : nthB ws n k ≤ t
 bx : W.cell? ⟨B, 0, none⟩ = some (.int .i64 ((t - nthB ws n k : Nat) : Int))
 fz : W.frozen? ⟨B, 0, none⟩ = false
 box0 : W.cell? ⟨b0, 0, none⟩ = some (.int .i64 0)
 box1 : W.cell? ⟨b1, 0, none⟩ = some (.int .i64 0)
 fz0 : W.frozen? ⟨b0, 0, none⟩ = false
 fz1 : W.frozen? ⟨b1, 0, none⟩ = false
 bel : Below B w W
theorem NthI.calm {ws : List Int} {n t b0 b1 B M : Nat} {w : World} {k : Nat} {W W' : World} (h : NthI ws n t b0 b1 B w k W) (hc : Calm M W W') (hB : B ≤ M) : NthI ws n t b0 b1 B w k W' :=
  ⟨h.le, hc.cell h.bx, hc.frozen h.bx h.fz, hc.cell h.box0, hc.cell h.box1, hc.frozen h.box0 h.fz0, hc.frozen h.box1 h.fz1, hc.below hB h.bel⟩
structure NthX (ws : List Int) (n t b0 b1 B : Nat) (w : World) (c : Code) (W : World) : Prop where
 code : c = .ret
 lt : t < (plsW ws 0 n).length
 hit : W.cell? ⟨b0, 0, none⟩ = some (.int .i64 ((plsW ws 0 n).getD t 0 : Nat))
 box1 : W.cell? ⟨b1, 0, none⟩ = some (.int .i64 0)
 bel : Below B w W
theorem NthX.calm {ws : List Int} {n t b0 b1 B M : Nat} {w : World} {c : Code} {W W' : World} (h : NthX ws n t b0 b1 B w c W) (hc : Calm M W W') (hB : B ≤ M) : NthX ws n t b0 b1 B w c W' :=
  ⟨h.code, h.lt, hc.cell h.hit, hc.cell h.box1, hc.below hB h.bel⟩
def nthV (ws : List Int) (n t : Nat) : Int := if t < (plsW ws 0 n).length then ((plsW ws 0 n).getD t 0 : Nat) else 0
def nthE (ws : List Int) (n t : Nat) : Int := if t < (plsW ws 0 n).length then 0 else 6
theorem parts_get0 (ws : List Int) {n m : Nat} (h : m < (n + 63) / 64) : (partsL ws 0 n).getD m #[] = #[.int .i64 ((64 * m : Nat) : Int), .int .u64 (cutV ws 0 n m)] := by
 have := partsL_get ws (a := 0) (b := n) (k := m) xo
 rwa [Nat.zero_div, Nat.zero_add] at this
theorem parts_len0 (ws : List Int) (n : Nat) : (partsL ws 0 n).length = (n + 63) / 64 := by
 rw [partsL_length, Nat.zero_div, Nat.sub_zero]
theorem Nth_ok (wa : Option Addr) (wc : Nat) (ws : List Int) (hu : U64s ws) (n t : Nat) (hn : n ≤ 65536) (ht : t ≤ 65536) (hl : ws.length ≤ 1000000000000) (hmay : wMayB ws n = true) (w : World) (hw : IsRow .u64 w wa ws) (hT : TabAt w) :
    Calls Tryd.prog 10 #[.slice wa ws.length wc, .int .i64 n, .int .i64 t] w (AnsB w (.tuple #[.int .i64 (nthV ws n t), .int .i64 (nthE ws n t)])) := by
 have AK := hid (fun w hw => (by have := occCheck_ok wa wc ws hu n hn hl w hw; rwa [if_pos hmay] at this : Calls Tryd.prog 30 #[.slice wa ws.length wc, .int .i64 n] w fun e w' => e = .returned (.int .i64 0) ∧ w = w'))
 have hlen : n ≤ 64 * ws.length := by
  simp only [wMayB, Bool.and_eq_true, decide_eq_true_eq] at hmay
  omega
 have IT := hid (fun S b1 b2 b3 s1 s2 s3 sw w hw c1 c2 c3 => parts1_iter wa wc ws hu 0 n (Nat.zero_le _) hn xo hl S b1 b2 b3 s1 s2 s3 sw w hw c1 c2 c3)
 have HW := hid hw
 have HT := hid hT
 have HLT := hid (fun x (h : wa = some x) (h0 : 0 < ws.length) => (show x.block < w.heap.size from by
  obtain ⟨bb, off, x', hx, -, -, hlt⟩ := hw.get h0
  rw [hx] at h
  cases h
  exact hlt))
 obtain ⟨m, hm⟩ : ∃ m, (n + 63) / 64 = m := ⟨_, rfl⟩
 have HP := hid (fun k (hk : k < m) => parts_get0 ws (n := n) (m := k) xo)
 have HPL := hid ((parts_len0 ws n).trans hm)
 have HV := hid (fun k (hk : k < m) => cutV_bd hu (a := 0) (b := n) (k := k) xo)
 have HIT := hid (fun k (hk : k < m) j hj => nth_hit (ws := ws) hu (n := n) (m := k) (k := j) xo hj)
 have HSU := hid (fun k (hk : k < m) => nthB_succ (ws := ws) hu (n := n) (m := k) xo)
 have NON := hid (nth_miss (ws := ws) (n := n) (m := m) xo)
 have hmb : m ≤ 1024 := xo
 obtain ⟨M, hM⟩ : ∃ M, ws.length = M := ⟨_, rfl⟩
 rw [hM] at hlen hl AK IT HLT ⊢
 clear hw hmay hM hu hm hT
 refine calls_of_wp_m Tryd.func10 rfl ?_
 simp only [Tryd.ntmps10, List.size_toArray, List.length_cons, List.length_nil, Nat.reduceAdd, Nat.reduceSub, Array.replicate_succ, Array.replicate_zero, List.push_toArray, List.append_toArray, List.nil_append, List.cons_append]
 obtain ⟨V, hV⟩ : ∃ V : Int, nthV ws n t = V := ⟨_, rfl⟩
 obtain ⟨E, hE⟩ : ∃ E : Int, nthE ws n t = E := ⟨_, rfl⟩
 rw [hV, hE]
 have YES := hid (fun (h : t < (plsW ws 0 n).length) => (show V = ((plsW ws 0 n).getD t 0 : Nat) ∧ E = 0 by rw [← hV, ← hE, nthV, nthE, if_pos h, if_pos h]; exact ⟨rfl, rfl⟩))
 have NO := hid (fun (h : ¬ t < (plsW ws 0 n).length) => (show V = 0 ∧ E = 6 by rw [← hV, ← hE, nthV, nthE, if_neg h, if_neg h]; exact ⟨rfl, rfl⟩))
 clear hV hE
 have g1 : decide ((t : Int) < 0) = false := by simp
 go_wp2
 refine wp_scope_loop 0 (fun _ _ _ => False) rfl (fun _ _ _ h => h.elim) ?_
 intro H hH hpass
 clear hH hpass
 go_wp2_with fail
 refine (AK.out _ (HW.out.below xbel)).mono ?_
 rintro e w' ⟨rfl, rfl⟩
 go_wp2
 refine wp_label ?_
 go_wp2_with fail
 refine (parts_ok wa M wc 0 n _).mono ?_
 rintro e w2 ⟨rfl, rfl⟩
 go_wp2
 refine wp_range (xs := partsL ws 0 n) (Kp := KpS (fun k => k ≠ w.heap.size ∧ k ≠ w.heap.size + 1 ∧ k ≠ w.heap.size + 2 ∧ k < w.heap.size + 6)) rfl (enters_of Tryd.func55 xk rfl)
   (IT.out (fun k => k ≠ w.heap.size ∧ k ≠ w.heap.size + 1 ∧ k ≠ w.heap.size + 2 ∧ k < w.heap.size + 6) (w.heap.size + 1 + 1 + 1) (w.heap.size + 1 + 1 + 2) (w.heap.size + 1 + 1 + 3) xo xo xo ?sw _ ?hw ?c1 ?c2 ?c3) (Below.refl _ _) (fun _ _ _ => rfl) (fun h k => fun i hi => (k i hi).trans (h i hi)) ?kb ?ps
   (NthI ws n t (w.heap.size + 1) (w.heap.size + 1 + 1) w.heap.size w) (NthX ws n t (w.heap.size + 1) (w.heap.size + 1 + 1) w.heap.size w) ?hI ?hX ?h0 ?round ?done ?stop
 case sw => intro x hx h0; have := HLT.out x hx h0; omega
 case hw => exact HW.out.below xbel
 case c1 => (exact xcn)
 case c2 => (exact xcn)
 case c3 => (exact xcn)
 case kb =>
  intro W l o o' hl _ _ k hk
  simp at hl
  exact World.putObj_heap_other xo
 case ps =>
  intro x hx
  simp only [partsL, List.mem_map] at hx
  obtain ⟨k, _, rfl⟩ := hx
  rfl
 case hI =>
  intro k W W' h hc
  exact h.calm hc (by simp; omega)
 case hX =>
  intro k W W' h hc
  exact h.calm hc (by simp; omega)
 case h0 =>
  exact ⟨by rw [nthB_zero]; omega, by rw [nthB_zero, Nat.sub_zero]; (exact xcn), by (exact xcn), by (exact xcn), by (exact xcn), by (exact xcn), by (exact xcn), by (exact xbel)⟩
 case round =>
  intro l k W hl hk hi
  rw [HPL.out] at hk
  rw [HP.out k hk]
  have hv := HV.out k hk
  have HH := hid (HIT.out k hk)
  have hsu := HSU.out k hk
  have h2 := popI_le (cutV ws 0 n k)
  have O1 := hid (fun W => Ones_ok (cutV ws 0 n k) hv.1 hv.2 W)
  have TZ := hid (fun j (hj : j < popI (cutV ws 0 n k)) => clrN_tz hv.1 hv.2 hj)
  generalize cutV ws 0 n k = x at *
  generalize popI x = px at *
  gi_wp2_with fail
  refine ⟨rfl, ?_⟩
  intro W2 hi2
  have hle := hi2.le
  have hbx := hi2.bx
  have hb0 := hi2.box0
  have hb1 := hi2.box1
  have hfz := hi2.fz
  have hf0 := hi2.fz0
  have hf1 := hi2.fz1
  have HBL := hid hi2.bel
  obtain ⟨r, hr⟩ : ∃ r, t - nthB ws n k = r := ⟨_, rfl⟩
  rw [hr] at hbx
  have HSUC := hid hsu
  have hrt : nthB ws n k + r = t := xo
  have HRT := hid hrt
  have hrb : r ≤ 65536 := xo
  clear hi hi2 hsu hr hrt hle
  gi_wp2_with fail
  refine ⟨trivial, rfl, (callsIn_wide.2 (O1.out _)).mono ?_⟩
  rintro e w' ⟨rfl, rfl⟩
  by_cases hlt : r < px
  · have d1 : decide ((px : Int) ≤ (r : Int)) = false := by simp; omega
    gi_wp2
    gi_loopg [10, 34] r (fun g xv iv wr => ∃ i : Nat, i + g = r ∧ xv = .int .u64 (clrN x i) ∧ iv = .int .i64 i ∧ wr = W2)
    case atStart => exact ⟨0, by omega, by rw [clrN_zero], rfl, rfl⟩
    case round =>
     obtain ⟨i, hir, rfl, rfl, rfl⟩ := hrel
     by_cases hil : i < r
     · obtain ⟨q0, ⟨q1, q2⟩, -⟩ := TZ.out i xo
       have hcl := clrN_succ x i
       obtain ⟨cx, hcx⟩ : ∃ c, clrN x i = c := ⟨_, rfl⟩
       rw [hcx] at hcl q0 q1 q2 ⊢
       have hsub : IntKind.u64.wrap (cx - 1) = cx - 1 := IntWalk.u64_in _ xo
       have HCL := hid hcl
       clear hcl hcx
       gi_wp2
       gi_roundg (gk - 1)
       case measure => omega
       case rel => exact ⟨i + 1, by omega, by rw [HCL.out]; rfl, by go_num, rfl⟩
     · have hie : i = r := xo
       subst hie
       obtain ⟨q0, ⟨q1, q2⟩, q3⟩ := TZ.out i hlt
       obtain ⟨z1, z2⟩ := HH.out i hlt
       have TT := hid (tz_ok _ q1 q2 q0 wr (HT.out.below HBL.out))
       have t3 := (tzI_bit q1 q2 q0).1
       rw [← q3, HRT.out] at z2
       rw [HRT.out] at z1
       generalize clrN x i = cx at *
       generalize tzI cx = tz at *
       have HE : Hid (((64 * k : Nat) : Int) + tz = ((plsW ws 0 n).getD t 0 : Nat)) := hid (by rw [← z2]; push_cast; rfl)
       have HZ := hid z1
       clear q3 z1 z2 q0 q1 q2 O1 TZ HH
       gi_wp2_with fail
       refine ⟨trivial, rfl, (callsIn_wide.2 TT.out).mono ?_⟩
       rintro e w' ⟨rfl, rfl⟩
       gi_wp2
       refine ⟨(KeepsOthers.setCell wr ⟨w.heap.size + 1, 0, none⟩ _).trans (KeepsOthers.setCell _ ⟨w.heap.size + 1 + 1, 0, none⟩ _), ⟨rfl, HZ.out, ?_, ?_, ?_⟩⟩
       · rw [← HE.out, World.cell?_setCell_other _ _ _ _ (by intro e; simp at e)]
         exact World.cell?_setCell_same _ _ _ hb0
       · exact World.cell?_setCell_same _ _ _ (by rw [World.cell?_setCell_other _ _ _ _ (by intro e; simp at e)]; exact hb1)
       · exact (HBL.out.setCell (by dsimp only; omega) _).setCell (by dsimp only; omega) _
  · have d1 : decide ((px : Int) ≤ (r : Int)) = true := by simp; omega
    have hwr : IntKind.i64.wrap ((r : Int) - (px : Int)) = ((r - px : Nat) : Int) := by rw [show (r : Int) - (px : Int) = ((r - px : Nat) : Int) by omega]; exact IntWalk.i64_in _ xo
    gi_wp2
    have e : t - nthB ws n (k + 1) = r - px := by have := HSUC.out; have := HRT.out; omega
    refine ⟨KeepsOthers.setCell W2 ⟨w.heap.size, 0, none⟩ _, fun i hi => Below.heap_setCell W2 ⟨w.heap.size, 0, none⟩ _ _ hi.1, ⟨?_, ?_, ?_, ?_, ?_, ?_, ?_, ?_⟩⟩
    · have := HSUC.out; have := HRT.out; omega
    · rw [e]
      exact World.cell?_setCell_same _ _ _ hbx
    · rw [World.frozen?_setCell]; exact hfz
    · rw [World.cell?_setCell_other _ _ _ _ (by intro e; simp at e)]; exact hb0
    · rw [World.cell?_setCell_other _ _ _ _ (by intro e; simp at e)]; exact hb1
    · rw [World.frozen?_setCell]; exact hf0
    · rw [World.frozen?_setCell]; exact hf1
    · exact HBL.out.setCell (Nat.le_refl _) _
 case done =>
  intro D W hD hi hK
  have hb0 := hi.box0
  have hb1 := hi.box1
  have hf0 := hi.fz0
  have hf1 := hi.fz1
  have hle := hi.le
  have hbl := hi.bel
  rw [HPL.out, NON.out] at hle
  obtain ⟨rfl, rfl⟩ := NO.out xo
  simp at hD
  have HBL := hid hbl
  clear hi hle hbl YES NO NON HIT HV HP
  go_wp2
  have hK2 : ((W.setCell ⟨w.heap.size + 1, 0, none⟩ (.int .i64 0)).setCell ⟨w.heap.size + 1 + 1, 0, none⟩ (.int .i64 6)).heap[D]? = some (.deferred (some [])) := ((Below.heap_setCell _ _ _ _ (by show D ≠ w.heap.size + 1 + 1; omega)).trans (Below.heap_setCell _ _ _ _ (by show D ≠ w.heap.size + 1; omega))).trans hK
  have hcalm : Calm (w.heap.size + 3) ((W.setCell ⟨w.heap.size + 1, 0, none⟩ (.int .i64 0)).setCell ⟨w.heap.size + 1 + 1, 0, none⟩ (.int .i64 6)) (((W.setCell ⟨w.heap.size + 1, 0, none⟩ (.int .i64 0)).setCell ⟨w.heap.size + 1 + 1, 0, none⟩ (.int .i64 6)).putObj D (.deferred none)) := Calm.putObj _ xo hK2 rfl
  have c0 : ((W.setCell ⟨w.heap.size + 1, 0, none⟩ (.int .i64 0)).setCell ⟨w.heap.size + 1 + 1, 0, none⟩ (.int .i64 6)).cell? ⟨w.heap.size + 1, 0, none⟩ = some (.int .i64 0) := by
   rw [World.cell?_setCell_other _ _ _ _ (by intro e; simp at e)]
   exact World.cell?_setCell_same _ _ _ hb0
  have c1 : ((W.setCell ⟨w.heap.size + 1, 0, none⟩ (.int .i64 0)).setCell ⟨w.heap.size + 1 + 1, 0, none⟩ (.int .i64 6)).cell? ⟨w.heap.size + 1 + 1, 0, none⟩ = some (.int .i64 6) := World.cell?_setCell_same _ _ _ (by rw [World.cell?_setCell_other _ _ _ _ (by intro e; simp at e)]; exact hb1)
  exact postM_one hK2 (results_cc rfl rfl rfl (run_loadVar_one Tryd.underlying3 rfl (hcalm.cell c0)) (run_loadVar_one Tryd.underlying34 rfl (hcalm.cell c1))) ⟨rfl, hcalm.below xo ((HBL.out.setCell (by dsimp only; omega) _).setCell (by dsimp only; omega) _)⟩
 case stop =>
  intro D c W hD hX hK
  obtain ⟨rfl, hlt, hc0, hc1, hbel⟩ := hX
  obtain ⟨rfl, rfl⟩ := YES.out hlt
  simp at hD
  have hcalm : Calm (w.heap.size + 3) W (W.putObj D (.deferred none)) := Calm.putObj _ xo hK rfl
  clear YES NO NON HIT HV HP
  go_wp2
  exact postM_one hK (results_cc rfl rfl rfl (run_loadVar_one Tryd.underlying3 rfl (hcalm.cell hc0)) (run_loadVar_one Tryd.underlying34 rfl (hcalm.cell hc1))) ⟨rfl, hcalm.below xo hbel⟩
end
end Go.Proofs.YtookgoidlnlckaaDoor

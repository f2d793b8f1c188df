/- PmaTells: the walk of the law. -/
import Derived.Test.YtmnlagmmbfjbeaaGreatDoorPmTr
import Derived.Test.YtmnlagmmbfjbeaaGreatDoorPmA
import Derived.Test.YtmnlagmmbfjbeaaGreatDoorPmB
import Derived.Test.YtmnlagmmbfjbeaaGreatDoorPmC
import Derived.Test.YtmnlagmmbfjbeaaGreatDoorPmD
namespace Go.Proofs.YtmnlagmmbfjbeaaGreatDoor
open Go.RowKit Go.Sort
set_option linter.unusedVariables false
set_option linter.unusedSimpArgs false

set_option maxRecDepth 100000 in
set_option maxHeartbeats 8000000 in
theorem PT_in (c : Cfg) (s : SlC) (wa ka va ca : Option Addr) (wc kc vc cc : Nat) (d : Cfg) (t : SlC) (wa' ka' va' ca' : Option Addr) (wc' kc' vc' cc' : Nat) (key : Int) (w : World) (h1 : gr4 600 s.ks.length s.vs.length s.ws.length s.cs.length = false) (h2 : gr4 600 t.ks.length t.vs.length t.ws.length t.cs.length = false) (nf : Cfg) (nc : SlC) (ce za zg gv gi pe : Int) (bb : Bool) (hu : U64s s.ws) (hnu : U64s nc.ws) (b1 : s.ks.length ≤ 1000000000) (b2 : s.vs.length ≤ 1000000000) (b3 : s.ws.length ≤ 1000000000) (b4 : s.cs.length ≤ 1000000000)
    (TW : Hid (∀ (W : World), Below w.heap.size w W → Calls Tryz.prog 6 #[.agg #[.int .u8 c.tag, .int .i64 c.most, .int .i64 c.seg, .int .i64 c.least, .int .i64 c.den, .int .i64 c.ll, .int .i64 c.rl, .int .i64 c.rh, .int .i64 c.lh, .int .i64 s.seg, .slice wa s.ws.length wc, .slice ka s.ks.length kc, .slice va s.vs.length vc, .slice ca s.cs.length cc, .int .u64 s.laid]] W (FreshPm W c s)))
    (PT : Hid (∀ (W : World) (a2 : SlA), Below w.heap.size w W → SlIn W s a2 → s.cs.length ≤ a2.cc → Calls Tryz.prog 7 #[pmV c s a2] W (FreshPmN W c s)))
    (NW : Hid (∀ (W : World), Below w.heap.size w W → Calls Tryz.prog 8 #[.agg #[.int .u8 c.tag, .int .i64 c.most, .int .i64 c.seg, .int .i64 c.least, .int .i64 c.den, .int .i64 c.ll, .int .i64 c.rl, .int .i64 c.rh, .int .i64 c.lh]] W (FreshPm2 W nf nc (.int .i64 ce))))
    (NR : Hid (∀ (W : World), Below w.heap.size w W → Calls Tryz.prog 9 #[.agg #[.int .u8 c.tag, .int .i64 c.most, .int .i64 c.seg, .int .i64 c.least, .int .i64 c.den, .int .i64 c.ll, .int .i64 c.rl, .int .i64 c.rh, .int .i64 c.lh]] W (FreshPm2 W nf nc (.int .i64 ce))))
    (SZ : Hid (∀ (W : World) (a2 : SlA), Below w.heap.size w W → SlIn W s a2 → s.cs.length ≤ a2.cc → Calls Tryz.prog 10 #[pmV c s a2] W (AnsB W (.tuple #[.int .i64 za, .int .i64 zg]))))
    (SR : Hid (∀ (W : World), Below w.heap.size w W → Calls Tryz.prog 11 #[.agg #[.int .u8 c.tag, .int .i64 c.most, .int .i64 c.seg, .int .i64 c.least, .int .i64 c.den, .int .i64 c.ll, .int .i64 c.rl, .int .i64 c.rh, .int .i64 c.lh, .int .i64 s.seg, .slice wa s.ws.length wc, .slice ka s.ks.length kc, .slice va s.vs.length vc, .slice ca s.cs.length cc, .int .u64 s.laid]] W (AnsB W (.tuple #[.int .i64 za, .int .i64 zg]))))
    (GT : Hid (∀ (W : World) (a2 : SlA), Below w.heap.size w W → SlIn W s a2 → s.cs.length ≤ a2.cc → Calls Tryz.prog 12 #[pmV c s a2, .int .i64 key] W (AnsB W (.tuple #[.int .i64 gv, .int .i64 gi]))))
    (GR : Hid (∀ (W : World), Below w.heap.size w W → Calls Tryz.prog 13 #[.agg #[.int .u8 c.tag, .int .i64 c.most, .int .i64 c.seg, .int .i64 c.least, .int .i64 c.den, .int .i64 c.ll, .int .i64 c.rl, .int .i64 c.rh, .int .i64 c.lh, .int .i64 s.seg, .slice wa s.ws.length wc, .slice ka s.ks.length kc, .slice va s.vs.length vc, .slice ca s.cs.length cc, .int .u64 s.laid], .int .i64 key] W (AnsB W (.tuple #[.int .i64 gv, .int .i64 gi]))))
    (CO : Hid (∀ (W : World) (a2 : SlA), Below w.heap.size w W → SlIn W s a2 → s.cs.length ≤ a2.cc → Calls Tryz.prog 14 #[pmV c s a2] W (AnsB W (.int .i64 pe))))
    (CM : Hid (∀ (W : World), Below w.heap.size w W → Calls Tryz.prog 15 #[.agg #[.int .u8 c.tag, .int .i64 c.most, .int .i64 c.seg, .int .i64 c.least, .int .i64 c.den, .int .i64 c.ll, .int .i64 c.rl, .int .i64 c.rh, .int .i64 c.lh, .int .i64 s.seg, .slice wa s.ws.length wc, .slice ka s.ks.length kc, .slice va s.vs.length vc, .slice ca s.cs.length cc, .int .u64 s.laid]] W (AnsB W (.int .i64 pe))))
    (S1 : Hid (∀ (W : World) (a2 : SlA), Below w.heap.size w W → SlIn W s a2 → Calls Tryz.prog 16 #[pmV c s a2, .agg #[.int .u8 d.tag, .int .i64 d.most, .int .i64 d.seg, .int .i64 d.least, .int .i64 d.den, .int .i64 d.ll, .int .i64 d.rl, .int .i64 d.rh, .int .i64 d.lh, .int .i64 t.seg, .slice wa' t.ws.length wc', .slice ka' t.ks.length kc', .slice va' t.vs.length vc', .slice ca' t.cs.length cc', .int .u64 t.laid]] W (AnsB W (.bool bb))))
    (S2 : Hid (∀ (W : World), Below w.heap.size w W → Calls Tryz.prog 17 #[.agg #[.int .u8 c.tag, .int .i64 c.most, .int .i64 c.seg, .int .i64 c.least, .int .i64 c.den, .int .i64 c.ll, .int .i64 c.rl, .int .i64 c.rh, .int .i64 c.lh, .int .i64 s.seg, .slice wa s.ws.length wc, .slice ka s.ks.length kc, .slice va s.vs.length vc, .slice ca s.cs.length cc, .int .u64 s.laid], .agg #[.int .u8 d.tag, .int .i64 d.most, .int .i64 d.seg, .int .i64 d.least, .int .i64 d.den, .int .i64 d.ll, .int .i64 d.rl, .int .i64 d.rh, .int .i64 d.lh, .int .i64 t.seg, .slice wa' t.ws.length wc', .slice ka' t.ks.length kc', .slice va' t.vs.length vc', .slice ca' t.cs.length cc', .int .u64 t.laid]] W (AnsB W (.bool bb))))
    (S3 : Hid (∀ (W : World) (a2 : SlA), Below w.heap.size w W → SlIn W s a2 → Calls Tryz.prog 16 #[pmV c s a2, .agg #[.int .u8 c.tag, .int .i64 c.most, .int .i64 c.seg, .int .i64 c.least, .int .i64 c.den, .int .i64 c.ll, .int .i64 c.rl, .int .i64 c.rh, .int .i64 c.lh, .int .i64 s.seg, .slice wa s.ws.length wc, .slice ka s.ks.length kc, .slice va s.vs.length vc, .slice ca s.cs.length cc, .int .u64 s.laid]] W (AnsB W (.bool true))))
    (S4 : Hid (∀ (W : World) (a2 : SlA), Below w.heap.size w W → SlIn W s a2 → Calls Tryz.prog 17 #[pmV c s a2, .agg #[.int .u8 c.tag, .int .i64 c.most, .int .i64 c.seg, .int .i64 c.least, .int .i64 c.den, .int .i64 c.ll, .int .i64 c.rl, .int .i64 c.rh, .int .i64 c.lh, .int .i64 s.seg, .slice wa s.ws.length wc, .slice ka s.ks.length kc, .slice va s.vs.length vc, .slice ca s.cs.length cc, .int .u64 s.laid]] W (AnsB W (.bool true))))
    (S5 : Hid (∀ (W : World) (a2 a3 : SlA), Below w.heap.size w W → SlIn W nc a2 → SlIn W nc a3 → Calls Tryz.prog 17 #[pmV nf nc a2, pmV nf nc a3] W (AnsB W (.bool true)))) :
    Calls Tryz.prog 3 #[.agg #[.int .u8 c.tag, .int .i64 c.most, .int .i64 c.seg, .int .i64 c.least, .int .i64 c.den, .int .i64 c.ll, .int .i64 c.rl, .int .i64 c.rh, .int .i64 c.lh, .int .i64 s.seg, .slice wa s.ws.length wc, .slice ka s.ks.length kc, .slice va s.vs.length vc, .slice ca s.cs.length cc, .int .u64 s.laid], .agg #[.int .u8 d.tag, .int .i64 d.most, .int .i64 d.seg, .int .i64 d.least, .int .i64 d.den, .int .i64 d.ll, .int .i64 d.rl, .int .i64 d.rh, .int .i64 d.lh, .int .i64 t.seg, .slice wa' t.ws.length wc', .slice ka' t.ks.length kc', .slice va' t.vs.length vc', .slice ca' t.cs.length cc', .int .u64 t.laid], .int .i64 key] w (AnsB w (.bool true)) := by
  have G1 := Lib.hid (fun W => Great11_ok c s ⟨wa, ka, va, ca, wc, kc, vc, cc⟩ 600 W)
  rw [h1] at G1
  have G2 := Lib.hid (fun W => Great11_ok d t ⟨wa', ka', va', ca', wc', kc', vc', cc'⟩ 600 W)
  rw [h2] at G2
  dsimp only [pmV] at G1 G2
  have HU := Lib.hid hu
  have HNU := Lib.hid hnu
  have HBD := Lib.hid (And.intro b1 (And.intro b2 (And.intro b3 b4)))
  have g1 : (pe == pe) = true := by simp
  have g2 : (bb == bb) = true := by simp
  have g3 : (ce == ce) = true := by simp
  have g4 : (za == za) = true := by simp
  have g5 : (zg == zg) = true := by simp
  have g6 : (gv == gv) = true := by simp
  have g7 : (gi == gi) = true := by simp
  clear h1 h2 hu hnu b1 b2 b3 b4
  go_enter Tryz.func3, Tryz.ntmps3
  go_wp2_with fail
  refine (G1.out _).mono ?_
  rintro e w1 ⟨rfl, hb1⟩
  have hz_w1 := hb1.size
  try simp only [World.size_alloc, World.size_setCell] at hz_w1
  have hh := bc15 hb1 (au15 (al15 (b := w.heap.size) (by simp)))
  obtain ⟨c_m0, c_m1, c_m2, c_m3, c_m4, c_m5, c_m6, c_m7, c_m8, c_m9, c_m10, c_m11, c_m12, c_m13, c_m14⟩ := hh
  have z_m := blt hb1 (auz (alz (b := w.heap.size) (by simp)))
  have hh := bc15 hb1 (al15 (b := w.heap.size + 1) (by simp))
  obtain ⟨c_o0, c_o1, c_o2, c_o3, c_o4, c_o5, c_o6, c_o7, c_o8, c_o9, c_o10, c_o11, c_o12, c_o13, c_o14⟩ := hh
  have z_o := blt hb1 (alz (b := w.heap.size + 1) (by simp))
  have hB1 : Below w.heap.size w w1 := by (repeat (first | with_reducible (first | exact Below.refl _ _ | assumption | exact Hid.out (by assumption) | refine Below.alloc ?_ ?_ _ | refine Below.setCell ?_ ?_ _ | refine below_drewN ?_ _ | refine Below.drew ?_ | refine below_via (by assumption) ?_ ?_) | (first | (with_reducible assumption) | omega | (simp only [szW] <;> omega) | (simp <;> omega))))
  go_wp2_with fail
  refine (G2.out _).mono ?_
  rintro e w2 ⟨rfl, hb2⟩
  have hz_w2 := hb2.size
  try simp only [World.size_alloc, World.size_setCell] at hz_w2
  have hh := bc15 hb2 ⟨c_m0, c_m1, c_m2, c_m3, c_m4, c_m5, c_m6, c_m7, c_m8, c_m9, c_m10, c_m11, c_m12, c_m13, c_m14⟩
  clear c_m0 c_m1 c_m2 c_m3 c_m4 c_m5 c_m6 c_m7 c_m8 c_m9 c_m10 c_m11 c_m12 c_m13 c_m14
  obtain ⟨c_m0, c_m1, c_m2, c_m3, c_m4, c_m5, c_m6, c_m7, c_m8, c_m9, c_m10, c_m11, c_m12, c_m13, c_m14⟩ := hh
  replace z_m := blt hb2 z_m
  have hh := bc15 hb2 ⟨c_o0, c_o1, c_o2, c_o3, c_o4, c_o5, c_o6, c_o7, c_o8, c_o9, c_o10, c_o11, c_o12, c_o13, c_o14⟩
  clear c_o0 c_o1 c_o2 c_o3 c_o4 c_o5 c_o6 c_o7 c_o8 c_o9 c_o10 c_o11 c_o12 c_o13 c_o14
  obtain ⟨c_o0, c_o1, c_o2, c_o3, c_o4, c_o5, c_o6, c_o7, c_o8, c_o9, c_o10, c_o11, c_o12, c_o13, c_o14⟩ := hh
  replace z_o := blt hb2 z_o
  have hB2 := below_via hb2 hB1 hB1.size
  have HB2 := Lib.hid hB2
  clear hb1 hb2 hB1 hB2
  generalize Value.agg #[.int .u8 c.tag, .int .i64 c.most, .int .i64 c.seg, .int .i64 c.least, .int .i64 c.den, .int .i64 c.ll, .int .i64 c.rl, .int .i64 c.rh, .int .i64 c.lh, .int .i64 s.seg, .slice wa s.ws.length wc, .slice ka s.ks.length kc, .slice va s.vs.length vc, .slice ca s.cs.length cc, .int .u64 s.laid] = ua0
  generalize Value.agg #[.int .u8 d.tag, .int .i64 d.most, .int .i64 d.seg, .int .i64 d.least, .int .i64 d.den, .int .i64 d.ll, .int .i64 d.rl, .int .i64 d.rh, .int .i64 d.lh, .int .i64 t.seg, .slice wa' t.ws.length wc', .slice ka' t.ks.length kc', .slice va' t.vs.length vc', .slice ca' t.cs.length cc', .int .u64 t.laid] = ua1
  as_aux_lemma =>
    go_wp2_with fail
    refine (TW.out _ HB2.out).mono ?_
    rintro e w3 ⟨v1, v2, v3, v4, rfl, p1, p2, p3, p4, hb3⟩
    have hz_w3 := hb3.size
    try simp only [World.size_alloc, World.size_setCell] at hz_w3
    have hh := bc15 hb3 ⟨c_m0, c_m1, c_m2, c_m3, c_m4, c_m5, c_m6, c_m7, c_m8, c_m9, c_m10, c_m11, c_m12, c_m13, c_m14⟩
    clear c_m0 c_m1 c_m2 c_m3 c_m4 c_m5 c_m6 c_m7 c_m8 c_m9 c_m10 c_m11 c_m12 c_m13 c_m14
    obtain ⟨c_m0, c_m1, c_m2, c_m3, c_m4, c_m5, c_m6, c_m7, c_m8, c_m9, c_m10, c_m11, c_m12, c_m13, c_m14⟩ := hh
    replace z_m := blt hb3 z_m
    have hh := bc15 hb3 ⟨c_o0, c_o1, c_o2, c_o3, c_o4, c_o5, c_o6, c_o7, c_o8, c_o9, c_o10, c_o11, c_o12, c_o13, c_o14⟩
    clear c_o0 c_o1 c_o2 c_o3 c_o4 c_o5 c_o6 c_o7 c_o8 c_o9 c_o10 c_o11 c_o12 c_o13 c_o14
    obtain ⟨c_o0, c_o1, c_o2, c_o3, c_o4, c_o5, c_o6, c_o7, c_o8, c_o9, c_o10, c_o11, c_o12, c_o13, c_o14⟩ := hh
    replace z_o := blt hb3 z_o
    have HB3 := Lib.hid (below_via hb3 HB2.out HB2.out.size)
    obtain ⟨a1, k1, rfl, i1, -, -, -, -⟩ := row_of_owns p1
    obtain ⟨a2, k2, rfl, i2, -, -, -, -⟩ := row_of_owns p2
    obtain ⟨a3, k3, rfl, i3, -, -, -, -⟩ := row_of_owns p3
    obtain ⟨a4, k4, rfl, i4, -, -, hcc, -⟩ := row_of_owns p4
    have HN3 : Hid (SlIn w3 s ⟨a1, a2, a3, a4, k1, k2, k3, k4⟩) := Lib.hid ⟨i1, i2, i3, i4, HU.out⟩
    have HCC := Lib.hid hcc
    clear hb3 p1 p2 p3 p4 i1 i2 i3 i4 hcc
    as_aux_lemma =>
      go_upto_region 4 with (fail)
      generalize hw4 : w3.alloc (.cells #[.int .u8 c.tag, .int .i64 c.most, .int .i64 c.seg, .int .i64 c.least, .int .i64 c.den, .int .i64 c.ll, .int .i64 c.rl, .int .i64 c.rh, .int .i64 c.lh, .int .i64 s.seg, .slice a1 s.ws.length k1, .slice a2 s.ks.length k2, .slice a3 s.vs.length k3, .slice a4 s.cs.length k4, .int .u64 s.laid] 31) = w4
      have hh := ec15 hw4 (au15 (⟨c_m0, c_m1, c_m2, c_m3, c_m4, c_m5, c_m6, c_m7, c_m8, c_m9, c_m10, c_m11, c_m12, c_m13, c_m14⟩))
      clear c_m0 c_m1 c_m2 c_m3 c_m4 c_m5 c_m6 c_m7 c_m8 c_m9 c_m10 c_m11 c_m12 c_m13 c_m14
      obtain ⟨c_m0, c_m1, c_m2, c_m3, c_m4, c_m5, c_m6, c_m7, c_m8, c_m9, c_m10, c_m11, c_m12, c_m13, c_m14⟩ := hh
      replace z_m := elt hw4 (auz (z_m))
      have hh := ec15 hw4 (au15 (⟨c_o0, c_o1, c_o2, c_o3, c_o4, c_o5, c_o6, c_o7, c_o8, c_o9, c_o10, c_o11, c_o12, c_o13, c_o14⟩))
      clear c_o0 c_o1 c_o2 c_o3 c_o4 c_o5 c_o6 c_o7 c_o8 c_o9 c_o10 c_o11 c_o12 c_o13 c_o14
      obtain ⟨c_o0, c_o1, c_o2, c_o3, c_o4, c_o5, c_o6, c_o7, c_o8, c_o9, c_o10, c_o11, c_o12, c_o13, c_o14⟩ := hh
      replace z_o := elt hw4 (auz (z_o))
      have hh := ec15 hw4 (al15 (b := w3.heap.size) (by simp))
      obtain ⟨c_n0, c_n1, c_n2, c_n3, c_n4, c_n5, c_n6, c_n7, c_n8, c_n9, c_n10, c_n11, c_n12, c_n13, c_n14⟩ := hh
      have z_n := elt hw4 (alz (b := w3.heap.size) (by simp))
      have hb4 : Below w3.heap.size w3 w4 := by rw [← hw4]; exact (Below.refl _ _).alloc (Nat.le_refl _) _
      have hz34 : w3.heap.size < w4.heap.size := by rw [← hw4]; simp
      have HB4 := Lib.hid (below_via hb4 HB3.out HB3.out.size)
      have HN4 := Lib.hid (HN3.out.below hb4)
      clear hw4 hb4 HN3
      generalize Value.agg #[.int .u8 c.tag, .int .i64 c.most, .int .i64 c.seg, .int .i64 c.least, .int .i64 c.den, .int .i64 c.ll, .int .i64 c.rl, .int .i64 c.rh, .int .i64 c.lh, .int .i64 s.seg, .slice a1 s.ws.length k1, .slice a2 s.ks.length k2, .slice a3 s.vs.length k3, .slice a4 s.cs.length k4, .int .u64 s.laid] = ub0
      generalize Value.agg #[.int .u8 c.tag, .int .i64 c.most, .int .i64 c.seg, .int .i64 c.least, .int .i64 c.den, .int .i64 c.ll, .int .i64 c.rl, .int .i64 c.rh, .int .i64 c.lh, .int .i64 s.seg, .slice wa s.ws.length wc, .slice ka s.ks.length kc, .slice va s.vs.length vc, .slice ca s.cs.length cc, .int .u64 s.laid] = ub1
      have PT4 := Lib.hid (PT.out w4 ⟨a1, a2, a3, a4, k1, k2, k3, k4⟩ HB4.out HN4.out HCC.out)
      dsimp only [pmV] at PT4
      as_aux_lemma =>
        go_wp2_with fail
        refine (PT4.out).mono ?_
        rintro e w5 ⟨x1, x2, x3, x4, rfl, q1, q2, q3, q4, hb5, hne⟩
        have hz_w5 := hb5.size
        try simp only [World.size_alloc, World.size_setCell] at hz_w5
        have hh := bc15 hb5 ⟨c_m0, c_m1, c_m2, c_m3, c_m4, c_m5, c_m6, c_m7, c_m8, c_m9, c_m10, c_m11, c_m12, c_m13, c_m14⟩
        clear c_m0 c_m1 c_m2 c_m3 c_m4 c_m5 c_m6 c_m7 c_m8 c_m9 c_m10 c_m11 c_m12 c_m13 c_m14
        obtain ⟨c_m0, c_m1, c_m2, c_m3, c_m4, c_m5, c_m6, c_m7, c_m8, c_m9, c_m10, c_m11, c_m12, c_m13, c_m14⟩ := hh
        replace z_m := blt hb5 z_m
        have hh := bc15 hb5 ⟨c_o0, c_o1, c_o2, c_o3, c_o4, c_o5, c_o6, c_o7, c_o8, c_o9, c_o10, c_o11, c_o12, c_o13, c_o14⟩
        clear c_o0 c_o1 c_o2 c_o3 c_o4 c_o5 c_o6 c_o7 c_o8 c_o9 c_o10 c_o11 c_o12 c_o13 c_o14
        obtain ⟨c_o0, c_o1, c_o2, c_o3, c_o4, c_o5, c_o6, c_o7, c_o8, c_o9, c_o10, c_o11, c_o12, c_o13, c_o14⟩ := hh
        replace z_o := blt hb5 z_o
        have hh := bc15 hb5 ⟨c_n0, c_n1, c_n2, c_n3, c_n4, c_n5, c_n6, c_n7, c_n8, c_n9, c_n10, c_n11, c_n12, c_n13, c_n14⟩
        clear c_n0 c_n1 c_n2 c_n3 c_n4 c_n5 c_n6 c_n7 c_n8 c_n9 c_n10 c_n11 c_n12 c_n13 c_n14
        obtain ⟨c_n0, c_n1, c_n2, c_n3, c_n4, c_n5, c_n6, c_n7, c_n8, c_n9, c_n10, c_n11, c_n12, c_n13, c_n14⟩ := hh
        replace z_n := blt hb5 z_n
        have HB5 := Lib.hid (below_via hb5 HB4.out HB4.out.size)
        have HC5 := Lib.hid hb5
        have HN5 := Lib.hid (HN4.out.below hb5)
        have HN4' := HN4
        obtain ⟨b1, j1, rfl, -, -, -, -, -⟩ := row_of_owns q1
        obtain ⟨b2, j2, rfl, -, -, -, -, -⟩ := row_of_owns q2
        obtain ⟨b3, j3, rfl, -, -, -, -, -⟩ := row_of_owns q3
        obtain ⟨b4, j4, rfl, -, -, -, -, -⟩ := row_of_owns q4
        have HNE := Lib.hid hne
        have HQ5 := Lib.hid (And.intro q1 (And.intro q2 (And.intro q3 q4)))
        clear hb5 q1 q2 q3 q4 hne PT4 HN4
        as_aux_lemma =>
          go_upto_region 5 with (fail)
          generalize hw6 : w5.alloc (.cells #[.int .u8 c.tag, .int .i64 c.most, .int .i64 c.seg, .int .i64 c.least, .int .i64 c.den, .int .i64 c.ll, .int .i64 c.rl, .int .i64 c.rh, .int .i64 c.lh, .int .i64 s.seg, .slice b1 s.ws.length j1, .slice b2 s.ks.length j2, .slice b3 s.vs.length j3, .slice b4 s.cs.length j4, .int .u64 s.laid] 31) = w6
          have hh := ec15 hw6 (au15 (⟨c_m0, c_m1, c_m2, c_m3, c_m4, c_m5, c_m6, c_m7, c_m8, c_m9, c_m10, c_m11, c_m12, c_m13, c_m14⟩))
          clear c_m0 c_m1 c_m2 c_m3 c_m4 c_m5 c_m6 c_m7 c_m8 c_m9 c_m10 c_m11 c_m12 c_m13 c_m14
          obtain ⟨c_m0, c_m1, c_m2, c_m3, c_m4, c_m5, c_m6, c_m7, c_m8, c_m9, c_m10, c_m11, c_m12, c_m13, c_m14⟩ := hh
          replace z_m := elt hw6 (auz (z_m))
          have hh := ec15 hw6 (au15 (⟨c_o0, c_o1, c_o2, c_o3, c_o4, c_o5, c_o6, c_o7, c_o8, c_o9, c_o10, c_o11, c_o12, c_o13, c_o14⟩))
          clear c_o0 c_o1 c_o2 c_o3 c_o4 c_o5 c_o6 c_o7 c_o8 c_o9 c_o10 c_o11 c_o12 c_o13 c_o14
          obtain ⟨c_o0, c_o1, c_o2, c_o3, c_o4, c_o5, c_o6, c_o7, c_o8, c_o9, c_o10, c_o11, c_o12, c_o13, c_o14⟩ := hh
          replace z_o := elt hw6 (auz (z_o))
          have hh := ec15 hw6 (au15 (⟨c_n0, c_n1, c_n2, c_n3, c_n4, c_n5, c_n6, c_n7, c_n8, c_n9, c_n10, c_n11, c_n12, c_n13, c_n14⟩))
          clear c_n0 c_n1 c_n2 c_n3 c_n4 c_n5 c_n6 c_n7 c_n8 c_n9 c_n10 c_n11 c_n12 c_n13 c_n14
          obtain ⟨c_n0, c_n1, c_n2, c_n3, c_n4, c_n5, c_n6, c_n7, c_n8, c_n9, c_n10, c_n11, c_n12, c_n13, c_n14⟩ := hh
          replace z_n := elt hw6 (auz (z_n))
          have hh := ec15 hw6 (al15 (b := w5.heap.size) (by simp))
          obtain ⟨c_t0, c_t1, c_t2, c_t3, c_t4, c_t5, c_t6, c_t7, c_t8, c_t9, c_t10, c_t11, c_t12, c_t13, c_t14⟩ := hh
          have z_t := elt hw6 (alz (b := w5.heap.size) (by simp))
          have hb6 : Below w5.heap.size w5 w6 := by rw [← hw6]; exact (Below.refl _ _).alloc (Nat.le_refl _) _
          have HB6 := Lib.hid (below_via hb6 HB5.out HB5.out.size)
          have HC6 := Lib.hid (below_via hb6 HC5.out HC5.out.size)
          have HE6 := Lib.hid hb6
          have HN6 := Lib.hid (HN5.out.below hb6)
          clear hw6 hb6 HN5
          generalize Value.agg #[.int .u8 c.tag, .int .i64 c.most, .int .i64 c.seg, .int .i64 c.least, .int .i64 c.den, .int .i64 c.ll, .int .i64 c.rl, .int .i64 c.rh, .int .i64 c.lh, .int .i64 s.seg, .slice b1 s.ws.length j1, .slice b2 s.ks.length j2, .slice b3 s.vs.length j3, .slice b4 s.cs.length j4, .int .u64 s.laid] = uc0
          generalize Value.agg #[.int .u8 c.tag, .int .i64 c.most, .int .i64 c.seg, .int .i64 c.least, .int .i64 c.den, .int .i64 c.ll, .int .i64 c.rl, .int .i64 c.rh, .int .i64 c.lh, .int .i64 s.seg, .slice a1 s.ws.length k1, .slice a2 s.ks.length k2, .slice a3 s.vs.length k3, .slice a4 s.cs.length k4, .int .u64 s.laid] = uc1
          as_aux_lemma =>
            go_wp2_with fail
            refine (NW.out _ HB6.out).mono ?_
            rintro e w7 ⟨y1, y2, y3, y4, rfl, r1, r2, r3, r4, hb7⟩
            have hz_w7 := hb7.size
            try simp only [World.size_alloc, World.size_setCell] at hz_w7
            have hh := bc15 hb7 ⟨c_m0, c_m1, c_m2, c_m3, c_m4, c_m5, c_m6, c_m7, c_m8, c_m9, c_m10, c_m11, c_m12, c_m13, c_m14⟩
            clear c_m0 c_m1 c_m2 c_m3 c_m4 c_m5 c_m6 c_m7 c_m8 c_m9 c_m10 c_m11 c_m12 c_m13 c_m14
            obtain ⟨c_m0, c_m1, c_m2, c_m3, c_m4, c_m5, c_m6, c_m7, c_m8, c_m9, c_m10, c_m11, c_m12, c_m13, c_m14⟩ := hh
            replace z_m := blt hb7 z_m
            have hh := bc15 hb7 ⟨c_o0, c_o1, c_o2, c_o3, c_o4, c_o5, c_o6, c_o7, c_o8, c_o9, c_o10, c_o11, c_o12, c_o13, c_o14⟩
            clear c_o0 c_o1 c_o2 c_o3 c_o4 c_o5 c_o6 c_o7 c_o8 c_o9 c_o10 c_o11 c_o12 c_o13 c_o14
            obtain ⟨c_o0, c_o1, c_o2, c_o3, c_o4, c_o5, c_o6, c_o7, c_o8, c_o9, c_o10, c_o11, c_o12, c_o13, c_o14⟩ := hh
            replace z_o := blt hb7 z_o
            have hh := bc15 hb7 ⟨c_n0, c_n1, c_n2, c_n3, c_n4, c_n5, c_n6, c_n7, c_n8, c_n9, c_n10, c_n11, c_n12, c_n13, c_n14⟩
            clear c_n0 c_n1 c_n2 c_n3 c_n4 c_n5 c_n6 c_n7 c_n8 c_n9 c_n10 c_n11 c_n12 c_n13 c_n14
            obtain ⟨c_n0, c_n1, c_n2, c_n3, c_n4, c_n5, c_n6, c_n7, c_n8, c_n9, c_n10, c_n11, c_n12, c_n13, c_n14⟩ := hh
            replace z_n := blt hb7 z_n
            have hh := bc15 hb7 ⟨c_t0, c_t1, c_t2, c_t3, c_t4, c_t5, c_t6, c_t7, c_t8, c_t9, c_t10, c_t11, c_t12, c_t13, c_t14⟩
            clear c_t0 c_t1 c_t2 c_t3 c_t4 c_t5 c_t6 c_t7 c_t8 c_t9 c_t10 c_t11 c_t12 c_t13 c_t14
            obtain ⟨c_t0, c_t1, c_t2, c_t3, c_t4, c_t5, c_t6, c_t7, c_t8, c_t9, c_t10, c_t11, c_t12, c_t13, c_t14⟩ := hh
            replace z_t := blt hb7 z_t
            have HB7 := Lib.hid (below_via hb7 HB6.out HB6.out.size)
            have HC7 := Lib.hid (below_via hb7 HC6.out HC6.out.size)
            have HE7 := Lib.hid (below_via hb7 HE6.out HE6.out.size)
            have HN7 := Lib.hid (HN6.out.below hb7)
            obtain ⟨e1, l1, rfl, i1, -, -, -, -⟩ := row_of_owns r1
            obtain ⟨e2, l2, rfl, i2, -, -, -, -⟩ := row_of_owns r2
            obtain ⟨e3, l3, rfl, i3, -, -, -, -⟩ := row_of_owns r3
            obtain ⟨e4, l4, rfl, i4, -, -, -, -⟩ := row_of_owns r4
            have HX7 : Hid (SlIn w7 nc ⟨e1, e2, e3, e4, l1, l2, l3, l4⟩) := Lib.hid ⟨i1, i2, i3, i4, HNU.out⟩
            clear hb7 r1 r2 r3 r4 i1 i2 i3 i4 HN6 HE6
            as_aux_lemma =>
              go_upto_region 6 with (fail)
              generalize hw8 : w7.alloc (.cells #[.int .u8 nf.tag, .int .i64 nf.most, .int .i64 nf.seg, .int .i64 nf.least, .int .i64 nf.den, .int .i64 nf.ll, .int .i64 nf.rl, .int .i64 nf.rh, .int .i64 nf.lh, .int .i64 nc.seg, .slice e1 nc.ws.length l1, .slice e2 nc.ks.length l2, .slice e3 nc.vs.length l3, .slice e4 nc.cs.length l4, .int .u64 nc.laid] 31) = w8
              have hh := ec15 hw8 (au15 (⟨c_m0, c_m1, c_m2, c_m3, c_m4, c_m5, c_m6, c_m7, c_m8, c_m9, c_m10, c_m11, c_m12, c_m13, c_m14⟩))
              clear c_m0 c_m1 c_m2 c_m3 c_m4 c_m5 c_m6 c_m7 c_m8 c_m9 c_m10 c_m11 c_m12 c_m13 c_m14
              obtain ⟨c_m0, c_m1, c_m2, c_m3, c_m4, c_m5, c_m6, c_m7, c_m8, c_m9, c_m10, c_m11, c_m12, c_m13, c_m14⟩ := hh
              replace z_m := elt hw8 (auz (z_m))
              have hh := ec15 hw8 (au15 (⟨c_o0, c_o1, c_o2, c_o3, c_o4, c_o5, c_o6, c_o7, c_o8, c_o9, c_o10, c_o11, c_o12, c_o13, c_o14⟩))
              clear c_o0 c_o1 c_o2 c_o3 c_o4 c_o5 c_o6 c_o7 c_o8 c_o9 c_o10 c_o11 c_o12 c_o13 c_o14
              obtain ⟨c_o0, c_o1, c_o2, c_o3, c_o4, c_o5, c_o6, c_o7, c_o8, c_o9, c_o10, c_o11, c_o12, c_o13, c_o14⟩ := hh
              replace z_o := elt hw8 (auz (z_o))
              have hh := ec15 hw8 (au15 (⟨c_n0, c_n1, c_n2, c_n3, c_n4, c_n5, c_n6, c_n7, c_n8, c_n9, c_n10, c_n11, c_n12, c_n13, c_n14⟩))
              clear c_n0 c_n1 c_n2 c_n3 c_n4 c_n5 c_n6 c_n7 c_n8 c_n9 c_n10 c_n11 c_n12 c_n13 c_n14
              obtain ⟨c_n0, c_n1, c_n2, c_n3, c_n4, c_n5, c_n6, c_n7, c_n8, c_n9, c_n10, c_n11, c_n12, c_n13, c_n14⟩ := hh
              replace z_n := elt hw8 (auz (z_n))
              have hh := ec15 hw8 (au15 (⟨c_t0, c_t1, c_t2, c_t3, c_t4, c_t5, c_t6, c_t7, c_t8, c_t9, c_t10, c_t11, c_t12, c_t13, c_t14⟩))
              clear c_t0 c_t1 c_t2 c_t3 c_t4 c_t5 c_t6 c_t7 c_t8 c_t9 c_t10 c_t11 c_t12 c_t13 c_t14
              obtain ⟨c_t0, c_t1, c_t2, c_t3, c_t4, c_t5, c_t6, c_t7, c_t8, c_t9, c_t10, c_t11, c_t12, c_t13, c_t14⟩ := hh
              replace z_t := elt hw8 (auz (z_t))
              have hh := ec15 hw8 (al15 (b := w7.heap.size) (by simp))
              obtain ⟨c_x0, c_x1, c_x2, c_x3, c_x4, c_x5, c_x6, c_x7, c_x8, c_x9, c_x10, c_x11, c_x12, c_x13, c_x14⟩ := hh
              have z_x := elt hw8 (alz (b := w7.heap.size) (by simp))
              have hb8 : Below w7.heap.size w7 w8 := by rw [← hw8]; exact (Below.refl _ _).alloc (Nat.le_refl _) _
              have HB8 := Lib.hid (below_via hb8 HB7.out HB7.out.size)
              have HC8 := Lib.hid (below_via hb8 HC7.out HC7.out.size)
              have HE8 := Lib.hid (below_via hb8 HE7.out HE7.out.size)
              have HN8 := Lib.hid (HN7.out.below hb8)
              have HX8 := Lib.hid (HX7.out.below hb8)
              clear hw8 hb8 HN7 HX7 HE7
              generalize Value.agg #[.int .u8 nf.tag, .int .i64 nf.most, .int .i64 nf.seg, .int .i64 nf.least, .int .i64 nf.den, .int .i64 nf.ll, .int .i64 nf.rl, .int .i64 nf.rh, .int .i64 nf.lh, .int .i64 nc.seg, .slice e1 nc.ws.length l1, .slice e2 nc.ks.length l2, .slice e3 nc.vs.length l3, .slice e4 nc.cs.length l4, .int .u64 nc.laid] = ud0
              generalize Value.agg #[.int .u8 c.tag, .int .i64 c.most, .int .i64 c.seg, .int .i64 c.least, .int .i64 c.den, .int .i64 c.ll, .int .i64 c.rl, .int .i64 c.rh, .int .i64 c.lh] = ud1
              as_aux_lemma =>
                go_wp2_with fail
                refine (NR.out _ HB8.out).mono ?_
                rintro e w9 ⟨z1, z2, z3, z4, rfl, r1, r2, r3, r4, hb9⟩
                have hz_w9 := hb9.size
                try simp only [World.size_alloc, World.size_setCell] at hz_w9
                have hh := bc15 hb9 ⟨c_m0, c_m1, c_m2, c_m3, c_m4, c_m5, c_m6, c_m7, c_m8, c_m9, c_m10, c_m11, c_m12, c_m13, c_m14⟩
                clear c_m0 c_m1 c_m2 c_m3 c_m4 c_m5 c_m6 c_m7 c_m8 c_m9 c_m10 c_m11 c_m12 c_m13 c_m14
                obtain ⟨c_m0, c_m1, c_m2, c_m3, c_m4, c_m5, c_m6, c_m7, c_m8, c_m9, c_m10, c_m11, c_m12, c_m13, c_m14⟩ := hh
                replace z_m := blt hb9 z_m
                have hh := bc15 hb9 ⟨c_o0, c_o1, c_o2, c_o3, c_o4, c_o5, c_o6, c_o7, c_o8, c_o9, c_o10, c_o11, c_o12, c_o13, c_o14⟩
                clear c_o0 c_o1 c_o2 c_o3 c_o4 c_o5 c_o6 c_o7 c_o8 c_o9 c_o10 c_o11 c_o12 c_o13 c_o14
                obtain ⟨c_o0, c_o1, c_o2, c_o3, c_o4, c_o5, c_o6, c_o7, c_o8, c_o9, c_o10, c_o11, c_o12, c_o13, c_o14⟩ := hh
                replace z_o := blt hb9 z_o
                have hh := bc15 hb9 ⟨c_n0, c_n1, c_n2, c_n3, c_n4, c_n5, c_n6, c_n7, c_n8, c_n9, c_n10, c_n11, c_n12, c_n13, c_n14⟩
                clear c_n0 c_n1 c_n2 c_n3 c_n4 c_n5 c_n6 c_n7 c_n8 c_n9 c_n10 c_n11 c_n12 c_n13 c_n14
                obtain ⟨c_n0, c_n1, c_n2, c_n3, c_n4, c_n5, c_n6, c_n7, c_n8, c_n9, c_n10, c_n11, c_n12, c_n13, c_n14⟩ := hh
                replace z_n := blt hb9 z_n
                have hh := bc15 hb9 ⟨c_t0, c_t1, c_t2, c_t3, c_t4, c_t5, c_t6, c_t7, c_t8, c_t9, c_t10, c_t11, c_t12, c_t13, c_t14⟩
                clear c_t0 c_t1 c_t2 c_t3 c_t4 c_t5 c_t6 c_t7 c_t8 c_t9 c_t10 c_t11 c_t12 c_t13 c_t14
                obtain ⟨c_t0, c_t1, c_t2, c_t3, c_t4, c_t5, c_t6, c_t7, c_t8, c_t9, c_t10, c_t11, c_t12, c_t13, c_t14⟩ := hh
                replace z_t := blt hb9 z_t
                have hh := bc15 hb9 ⟨c_x0, c_x1, c_x2, c_x3, c_x4, c_x5, c_x6, c_x7, c_x8, c_x9, c_x10, c_x11, c_x12, c_x13, c_x14⟩
                clear c_x0 c_x1 c_x2 c_x3 c_x4 c_x5 c_x6 c_x7 c_x8 c_x9 c_x10 c_x11 c_x12 c_x13 c_x14
                obtain ⟨c_x0, c_x1, c_x2, c_x3, c_x4, c_x5, c_x6, c_x7, c_x8, c_x9, c_x10, c_x11, c_x12, c_x13, c_x14⟩ := hh
                replace z_x := blt hb9 z_x
                have HB9 := Lib.hid (below_via hb9 HB8.out HB8.out.size)
                have HC9 := Lib.hid (below_via hb9 HC8.out HC8.out.size)
                have HE9 := Lib.hid (below_via hb9 HE8.out HE8.out.size)
                have HN9 := Lib.hid (HN8.out.below hb9)
                have HX9 := Lib.hid (HX8.out.below hb9)
                obtain ⟨f1, n1, rfl, i1, -, -, -, -⟩ := row_of_owns r1
                obtain ⟨f2, n2, rfl, i2, -, -, -, -⟩ := row_of_owns r2
                obtain ⟨f3, n3, rfl, i3, -, -, -, -⟩ := row_of_owns r3
                obtain ⟨f4, n4, rfl, i4, -, -, -, -⟩ := row_of_owns r4
                have HY9 : Hid (SlIn w9 nc ⟨f1, f2, f3, f4, n1, n2, n3, n4⟩) := Lib.hid ⟨i1, i2, i3, i4, HNU.out⟩
                clear hb9 r1 r2 r3 r4 i1 i2 i3 i4 HN8 HX8 HE8
                as_aux_lemma =>
                  go_upto_region 7 with (fail)
                  generalize hw10 : w9.alloc (.cells #[.int .u8 nf.tag, .int .i64 nf.most, .int .i64 nf.seg, .int .i64 nf.least, .int .i64 nf.den, .int .i64 nf.ll, .int .i64 nf.rl, .int .i64 nf.rh, .int .i64 nf.lh, .int .i64 nc.seg, .slice f1 nc.ws.length n1, .slice f2 nc.ks.length n2, .slice f3 nc.vs.length n3, .slice f4 nc.cs.length n4, .int .u64 nc.laid] 31) = w10
                  have hh := ec15 hw10 (au15 (⟨c_m0, c_m1, c_m2, c_m3, c_m4, c_m5, c_m6, c_m7, c_m8, c_m9, c_m10, c_m11, c_m12, c_m13, c_m14⟩))
                  clear c_m0 c_m1 c_m2 c_m3 c_m4 c_m5 c_m6 c_m7 c_m8 c_m9 c_m10 c_m11 c_m12 c_m13 c_m14
                  obtain ⟨c_m0, c_m1, c_m2, c_m3, c_m4, c_m5, c_m6, c_m7, c_m8, c_m9, c_m10, c_m11, c_m12, c_m13, c_m14⟩ := hh
                  replace z_m := elt hw10 (auz (z_m))
                  have hh := ec15 hw10 (au15 (⟨c_o0, c_o1, c_o2, c_o3, c_o4, c_o5, c_o6, c_o7, c_o8, c_o9, c_o10, c_o11, c_o12, c_o13, c_o14⟩))
                  clear c_o0 c_o1 c_o2 c_o3 c_o4 c_o5 c_o6 c_o7 c_o8 c_o9 c_o10 c_o11 c_o12 c_o13 c_o14
                  obtain ⟨c_o0, c_o1, c_o2, c_o3, c_o4, c_o5, c_o6, c_o7, c_o8, c_o9, c_o10, c_o11, c_o12, c_o13, c_o14⟩ := hh
                  replace z_o := elt hw10 (auz (z_o))
                  have hh := ec15 hw10 (au15 (⟨c_n0, c_n1, c_n2, c_n3, c_n4, c_n5, c_n6, c_n7, c_n8, c_n9, c_n10, c_n11, c_n12, c_n13, c_n14⟩))
                  clear c_n0 c_n1 c_n2 c_n3 c_n4 c_n5 c_n6 c_n7 c_n8 c_n9 c_n10 c_n11 c_n12 c_n13 c_n14
                  obtain ⟨c_n0, c_n1, c_n2, c_n3, c_n4, c_n5, c_n6, c_n7, c_n8, c_n9, c_n10, c_n11, c_n12, c_n13, c_n14⟩ := hh
                  replace z_n := elt hw10 (auz (z_n))
                  have hh := ec15 hw10 (au15 (⟨c_t0, c_t1, c_t2, c_t3, c_t4, c_t5, c_t6, c_t7, c_t8, c_t9, c_t10, c_t11, c_t12, c_t13, c_t14⟩))
                  clear c_t0 c_t1 c_t2 c_t3 c_t4 c_t5 c_t6 c_t7 c_t8 c_t9 c_t10 c_t11 c_t12 c_t13 c_t14
                  obtain ⟨c_t0, c_t1, c_t2, c_t3, c_t4, c_t5, c_t6, c_t7, c_t8, c_t9, c_t10, c_t11, c_t12, c_t13, c_t14⟩ := hh
                  replace z_t := elt hw10 (auz (z_t))
                  have hh := ec15 hw10 (au15 (⟨c_x0, c_x1, c_x2, c_x3, c_x4, c_x5, c_x6, c_x7, c_x8, c_x9, c_x10, c_x11, c_x12, c_x13, c_x14⟩))
                  clear c_x0 c_x1 c_x2 c_x3 c_x4 c_x5 c_x6 c_x7 c_x8 c_x9 c_x10 c_x11 c_x12 c_x13 c_x14
                  obtain ⟨c_x0, c_x1, c_x2, c_x3, c_x4, c_x5, c_x6, c_x7, c_x8, c_x9, c_x10, c_x11, c_x12, c_x13, c_x14⟩ := hh
                  replace z_x := elt hw10 (auz (z_x))
                  have hh := ec15 hw10 (al15 (b := w9.heap.size) (by simp))
                  obtain ⟨c_y0, c_y1, c_y2, c_y3, c_y4, c_y5, c_y6, c_y7, c_y8, c_y9, c_y10, c_y11, c_y12, c_y13, c_y14⟩ := hh
                  have z_y := elt hw10 (alz (b := w9.heap.size) (by simp))
                  have hb10 : Below w9.heap.size w9 w10 := by rw [← hw10]; exact (Below.refl _ _).alloc (Nat.le_refl _) _
                  have HB10 := Lib.hid (below_via hb10 HB9.out HB9.out.size)
                  have HC10 := Lib.hid (below_via hb10 HC9.out HC9.out.size)
                  have HE10 := Lib.hid (below_via hb10 HE9.out HE9.out.size)
                  have HN10 := Lib.hid (HN9.out.below hb10)
                  have HX10 := Lib.hid (HX9.out.below hb10)
                  have HY10 := Lib.hid (HY9.out.below hb10)
                  have HF10 := Lib.hid (Below.refl w10.heap.size w10)
                  clear hw10 hb10 HN9 HX9 HY9 HE9
                  generalize Value.agg #[.int .u8 nf.tag, .int .i64 nf.most, .int .i64 nf.seg, .int .i64 nf.least, .int .i64 nf.den, .int .i64 nf.ll, .int .i64 nf.rl, .int .i64 nf.rh, .int .i64 nf.lh, .int .i64 nc.seg, .slice f1 nc.ws.length n1, .slice f2 nc.ks.length n2, .slice f3 nc.vs.length n3, .slice f4 nc.cs.length n4, .int .u64 nc.laid] = ue0
                  generalize Value.agg #[.int .u8 c.tag, .int .i64 c.most, .int .i64 c.seg, .int .i64 c.least, .int .i64 c.den, .int .i64 c.ll, .int .i64 c.rl, .int .i64 c.rh, .int .i64 c.lh] = ue1
                  have SZ10 := Lib.hid (SZ.out w10 ⟨a1, a2, a3, a4, k1, k2, k3, k4⟩ HB10.out HN10.out HCC.out)
                  dsimp only [pmV] at SZ10
                  as_aux_lemma =>
                    go_wp2_with fail
                    refine (SZ10.out).mono ?_
                    rintro e w11 ⟨rfl, hb11⟩
                    have hz_w11 := hb11.size
                    try simp only [World.size_alloc, World.size_setCell] at hz_w11
                    have hh := bc15 hb11 ⟨c_m0, c_m1, c_m2, c_m3, c_m4, c_m5, c_m6, c_m7, c_m8, c_m9, c_m10, c_m11, c_m12, c_m13, c_m14⟩
                    clear c_m0 c_m1 c_m2 c_m3 c_m4 c_m5 c_m6 c_m7 c_m8 c_m9 c_m10 c_m11 c_m12 c_m13 c_m14
                    obtain ⟨c_m0, c_m1, c_m2, c_m3, c_m4, c_m5, c_m6, c_m7, c_m8, c_m9, c_m10, c_m11, c_m12, c_m13, c_m14⟩ := hh
                    replace z_m := blt hb11 z_m
                    have hh := bc15 hb11 ⟨c_o0, c_o1, c_o2, c_o3, c_o4, c_o5, c_o6, c_o7, c_o8, c_o9, c_o10, c_o11, c_o12, c_o13, c_o14⟩
                    clear c_o0 c_o1 c_o2 c_o3 c_o4 c_o5 c_o6 c_o7 c_o8 c_o9 c_o10 c_o11 c_o12 c_o13 c_o14
                    obtain ⟨c_o0, c_o1, c_o2, c_o3, c_o4, c_o5, c_o6, c_o7, c_o8, c_o9, c_o10, c_o11, c_o12, c_o13, c_o14⟩ := hh
                    replace z_o := blt hb11 z_o
                    have hh := bc15 hb11 ⟨c_n0, c_n1, c_n2, c_n3, c_n4, c_n5, c_n6, c_n7, c_n8, c_n9, c_n10, c_n11, c_n12, c_n13, c_n14⟩
                    clear c_n0 c_n1 c_n2 c_n3 c_n4 c_n5 c_n6 c_n7 c_n8 c_n9 c_n10 c_n11 c_n12 c_n13 c_n14
                    obtain ⟨c_n0, c_n1, c_n2, c_n3, c_n4, c_n5, c_n6, c_n7, c_n8, c_n9, c_n10, c_n11, c_n12, c_n13, c_n14⟩ := hh
                    replace z_n := blt hb11 z_n
                    have hh := bc15 hb11 ⟨c_t0, c_t1, c_t2, c_t3, c_t4, c_t5, c_t6, c_t7, c_t8, c_t9, c_t10, c_t11, c_t12, c_t13, c_t14⟩
                    clear c_t0 c_t1 c_t2 c_t3 c_t4 c_t5 c_t6 c_t7 c_t8 c_t9 c_t10 c_t11 c_t12 c_t13 c_t14
                    obtain ⟨c_t0, c_t1, c_t2, c_t3, c_t4, c_t5, c_t6, c_t7, c_t8, c_t9, c_t10, c_t11, c_t12, c_t13, c_t14⟩ := hh
                    replace z_t := blt hb11 z_t
                    have hh := bc15 hb11 ⟨c_x0, c_x1, c_x2, c_x3, c_x4, c_x5, c_x6, c_x7, c_x8, c_x9, c_x10, c_x11, c_x12, c_x13, c_x14⟩
                    clear c_x0 c_x1 c_x2 c_x3 c_x4 c_x5 c_x6 c_x7 c_x8 c_x9 c_x10 c_x11 c_x12 c_x13 c_x14
                    obtain ⟨c_x0, c_x1, c_x2, c_x3, c_x4, c_x5, c_x6, c_x7, c_x8, c_x9, c_x10, c_x11, c_x12, c_x13, c_x14⟩ := hh
                    replace z_x := blt hb11 z_x
                    have hh := bc15 hb11 ⟨c_y0, c_y1, c_y2, c_y3, c_y4, c_y5, c_y6, c_y7, c_y8, c_y9, c_y10, c_y11, c_y12, c_y13, c_y14⟩
                    clear c_y0 c_y1 c_y2 c_y3 c_y4 c_y5 c_y6 c_y7 c_y8 c_y9 c_y10 c_y11 c_y12 c_y13 c_y14
                    obtain ⟨c_y0, c_y1, c_y2, c_y3, c_y4, c_y5, c_y6, c_y7, c_y8, c_y9, c_y10, c_y11, c_y12, c_y13, c_y14⟩ := hh
                    replace z_y := blt hb11 z_y
                    have HB11 := Lib.hid (below_via hb11 HB10.out HB10.out.size)
                    have HF11 := Lib.hid (below_via hb11 HF10.out HF10.out.size)
                    clear hb11 HB10 HF10 SZ10
                    as_aux_lemma =>
                      go_wp2_with fail
                      refine (SR.out _ HB11.out).mono ?_
                      rintro e w12 ⟨rfl, hb12⟩
                      have hz_w12 := hb12.size
                      try simp only [World.size_alloc, World.size_setCell] at hz_w12
                      have hh := bc15 hb12 ⟨c_m0, c_m1, c_m2, c_m3, c_m4, c_m5, c_m6, c_m7, c_m8, c_m9, c_m10, c_m11, c_m12, c_m13, c_m14⟩
                      clear c_m0 c_m1 c_m2 c_m3 c_m4 c_m5 c_m6 c_m7 c_m8 c_m9 c_m10 c_m11 c_m12 c_m13 c_m14
                      obtain ⟨c_m0, c_m1, c_m2, c_m3, c_m4, c_m5, c_m6, c_m7, c_m8, c_m9, c_m10, c_m11, c_m12, c_m13, c_m14⟩ := hh
                      replace z_m := blt hb12 z_m
                      have hh := bc15 hb12 ⟨c_o0, c_o1, c_o2, c_o3, c_o4, c_o5, c_o6, c_o7, c_o8, c_o9, c_o10, c_o11, c_o12, c_o13, c_o14⟩
                      clear c_o0 c_o1 c_o2 c_o3 c_o4 c_o5 c_o6 c_o7 c_o8 c_o9 c_o10 c_o11 c_o12 c_o13 c_o14
                      obtain ⟨c_o0, c_o1, c_o2, c_o3, c_o4, c_o5, c_o6, c_o7, c_o8, c_o9, c_o10, c_o11, c_o12, c_o13, c_o14⟩ := hh
                      replace z_o := blt hb12 z_o
                      have hh := bc15 hb12 ⟨c_n0, c_n1, c_n2, c_n3, c_n4, c_n5, c_n6, c_n7, c_n8, c_n9, c_n10, c_n11, c_n12, c_n13, c_n14⟩
                      clear c_n0 c_n1 c_n2 c_n3 c_n4 c_n5 c_n6 c_n7 c_n8 c_n9 c_n10 c_n11 c_n12 c_n13 c_n14
                      obtain ⟨c_n0, c_n1, c_n2, c_n3, c_n4, c_n5, c_n6, c_n7, c_n8, c_n9, c_n10, c_n11, c_n12, c_n13, c_n14⟩ := hh
                      replace z_n := blt hb12 z_n
                      have hh := bc15 hb12 ⟨c_t0, c_t1, c_t2, c_t3, c_t4, c_t5, c_t6, c_t7, c_t8, c_t9, c_t10, c_t11, c_t12, c_t13, c_t14⟩
                      clear c_t0 c_t1 c_t2 c_t3 c_t4 c_t5 c_t6 c_t7 c_t8 c_t9 c_t10 c_t11 c_t12 c_t13 c_t14
                      obtain ⟨c_t0, c_t1, c_t2, c_t3, c_t4, c_t5, c_t6, c_t7, c_t8, c_t9, c_t10, c_t11, c_t12, c_t13, c_t14⟩ := hh
                      replace z_t := blt hb12 z_t
                      have hh := bc15 hb12 ⟨c_x0, c_x1, c_x2, c_x3, c_x4, c_x5, c_x6, c_x7, c_x8, c_x9, c_x10, c_x11, c_x12, c_x13, c_x14⟩
                      clear c_x0 c_x1 c_x2 c_x3 c_x4 c_x5 c_x6 c_x7 c_x8 c_x9 c_x10 c_x11 c_x12 c_x13 c_x14
                      obtain ⟨c_x0, c_x1, c_x2, c_x3, c_x4, c_x5, c_x6, c_x7, c_x8, c_x9, c_x10, c_x11, c_x12, c_x13, c_x14⟩ := hh
                      replace z_x := blt hb12 z_x
                      have hh := bc15 hb12 ⟨c_y0, c_y1, c_y2, c_y3, c_y4, c_y5, c_y6, c_y7, c_y8, c_y9, c_y10, c_y11, c_y12, c_y13, c_y14⟩
                      clear c_y0 c_y1 c_y2 c_y3 c_y4 c_y5 c_y6 c_y7 c_y8 c_y9 c_y10 c_y11 c_y12 c_y13 c_y14
                      obtain ⟨c_y0, c_y1, c_y2, c_y3, c_y4, c_y5, c_y6, c_y7, c_y8, c_y9, c_y10, c_y11, c_y12, c_y13, c_y14⟩ := hh
                      replace z_y := blt hb12 z_y
                      have HB12 := Lib.hid (below_via hb12 HB11.out HB11.out.size)
                      have HF12 := Lib.hid (below_via hb12 HF11.out HF11.out.size)
                      clear hb12 HB11 HF11
                      have GT12 := Lib.hid (GT.out w12 ⟨a1, a2, a3, a4, k1, k2, k3, k4⟩ HB12.out (HN10.out.below HF12.out) HCC.out)
                      dsimp only [pmV] at GT12
                      as_aux_lemma =>
                        go_wp2_with fail
                        refine (GT12.out).mono ?_
                        rintro e w13 ⟨rfl, hb13⟩
                        have hz_w13 := hb13.size
                        try simp only [World.size_alloc, World.size_setCell] at hz_w13
                        have hh := bc15 hb13 ⟨c_m0, c_m1, c_m2, c_m3, c_m4, c_m5, c_m6, c_m7, c_m8, c_m9, c_m10, c_m11, c_m12, c_m13, c_m14⟩
                        clear c_m0 c_m1 c_m2 c_m3 c_m4 c_m5 c_m6 c_m7 c_m8 c_m9 c_m10 c_m11 c_m12 c_m13 c_m14
                        obtain ⟨c_m0, c_m1, c_m2, c_m3, c_m4, c_m5, c_m6, c_m7, c_m8, c_m9, c_m10, c_m11, c_m12, c_m13, c_m14⟩ := hh
                        replace z_m := blt hb13 z_m
                        have hh := bc15 hb13 ⟨c_o0, c_o1, c_o2, c_o3, c_o4, c_o5, c_o6, c_o7, c_o8, c_o9, c_o10, c_o11, c_o12, c_o13, c_o14⟩
                        clear c_o0 c_o1 c_o2 c_o3 c_o4 c_o5 c_o6 c_o7 c_o8 c_o9 c_o10 c_o11 c_o12 c_o13 c_o14
                        obtain ⟨c_o0, c_o1, c_o2, c_o3, c_o4, c_o5, c_o6, c_o7, c_o8, c_o9, c_o10, c_o11, c_o12, c_o13, c_o14⟩ := hh
                        replace z_o := blt hb13 z_o
                        have hh := bc15 hb13 ⟨c_n0, c_n1, c_n2, c_n3, c_n4, c_n5, c_n6, c_n7, c_n8, c_n9, c_n10, c_n11, c_n12, c_n13, c_n14⟩
                        clear c_n0 c_n1 c_n2 c_n3 c_n4 c_n5 c_n6 c_n7 c_n8 c_n9 c_n10 c_n11 c_n12 c_n13 c_n14
                        obtain ⟨c_n0, c_n1, c_n2, c_n3, c_n4, c_n5, c_n6, c_n7, c_n8, c_n9, c_n10, c_n11, c_n12, c_n13, c_n14⟩ := hh
                        replace z_n := blt hb13 z_n
                        have hh := bc15 hb13 ⟨c_t0, c_t1, c_t2, c_t3, c_t4, c_t5, c_t6, c_t7, c_t8, c_t9, c_t10, c_t11, c_t12, c_t13, c_t14⟩
                        clear c_t0 c_t1 c_t2 c_t3 c_t4 c_t5 c_t6 c_t7 c_t8 c_t9 c_t10 c_t11 c_t12 c_t13 c_t14
                        obtain ⟨c_t0, c_t1, c_t2, c_t3, c_t4, c_t5, c_t6, c_t7, c_t8, c_t9, c_t10, c_t11, c_t12, c_t13, c_t14⟩ := hh
                        replace z_t := blt hb13 z_t
                        have hh := bc15 hb13 ⟨c_x0, c_x1, c_x2, c_x3, c_x4, c_x5, c_x6, c_x7, c_x8, c_x9, c_x10, c_x11, c_x12, c_x13, c_x14⟩
                        clear c_x0 c_x1 c_x2 c_x3 c_x4 c_x5 c_x6 c_x7 c_x8 c_x9 c_x10 c_x11 c_x12 c_x13 c_x14
                        obtain ⟨c_x0, c_x1, c_x2, c_x3, c_x4, c_x5, c_x6, c_x7, c_x8, c_x9, c_x10, c_x11, c_x12, c_x13, c_x14⟩ := hh
                        replace z_x := blt hb13 z_x
                        have hh := bc15 hb13 ⟨c_y0, c_y1, c_y2, c_y3, c_y4, c_y5, c_y6, c_y7, c_y8, c_y9, c_y10, c_y11, c_y12, c_y13, c_y14⟩
                        clear c_y0 c_y1 c_y2 c_y3 c_y4 c_y5 c_y6 c_y7 c_y8 c_y9 c_y10 c_y11 c_y12 c_y13 c_y14
                        obtain ⟨c_y0, c_y1, c_y2, c_y3, c_y4, c_y5, c_y6, c_y7, c_y8, c_y9, c_y10, c_y11, c_y12, c_y13, c_y14⟩ := hh
                        replace z_y := blt hb13 z_y
                        have HB13 := Lib.hid (below_via hb13 HB12.out HB12.out.size)
                        have HF13 := Lib.hid (below_via hb13 HF12.out HF12.out.size)
                        clear hb13 HB12 HF12 GT12
                        as_aux_lemma =>
                          go_wp2_with fail
                          refine (GR.out _ HB13.out).mono ?_
                          rintro e w14 ⟨rfl, hb14⟩
                          have hz_w14 := hb14.size
                          try simp only [World.size_alloc, World.size_setCell] at hz_w14
                          have hh := bc15 hb14 ⟨c_m0, c_m1, c_m2, c_m3, c_m4, c_m5, c_m6, c_m7, c_m8, c_m9, c_m10, c_m11, c_m12, c_m13, c_m14⟩
                          clear c_m0 c_m1 c_m2 c_m3 c_m4 c_m5 c_m6 c_m7 c_m8 c_m9 c_m10 c_m11 c_m12 c_m13 c_m14
                          obtain ⟨c_m0, c_m1, c_m2, c_m3, c_m4, c_m5, c_m6, c_m7, c_m8, c_m9, c_m10, c_m11, c_m12, c_m13, c_m14⟩ := hh
                          replace z_m := blt hb14 z_m
                          have hh := bc15 hb14 ⟨c_o0, c_o1, c_o2, c_o3, c_o4, c_o5, c_o6, c_o7, c_o8, c_o9, c_o10, c_o11, c_o12, c_o13, c_o14⟩
                          clear c_o0 c_o1 c_o2 c_o3 c_o4 c_o5 c_o6 c_o7 c_o8 c_o9 c_o10 c_o11 c_o12 c_o13 c_o14
                          obtain ⟨c_o0, c_o1, c_o2, c_o3, c_o4, c_o5, c_o6, c_o7, c_o8, c_o9, c_o10, c_o11, c_o12, c_o13, c_o14⟩ := hh
                          replace z_o := blt hb14 z_o
                          have hh := bc15 hb14 ⟨c_n0, c_n1, c_n2, c_n3, c_n4, c_n5, c_n6, c_n7, c_n8, c_n9, c_n10, c_n11, c_n12, c_n13, c_n14⟩
                          clear c_n0 c_n1 c_n2 c_n3 c_n4 c_n5 c_n6 c_n7 c_n8 c_n9 c_n10 c_n11 c_n12 c_n13 c_n14
                          obtain ⟨c_n0, c_n1, c_n2, c_n3, c_n4, c_n5, c_n6, c_n7, c_n8, c_n9, c_n10, c_n11, c_n12, c_n13, c_n14⟩ := hh
                          replace z_n := blt hb14 z_n
                          have hh := bc15 hb14 ⟨c_t0, c_t1, c_t2, c_t3, c_t4, c_t5, c_t6, c_t7, c_t8, c_t9, c_t10, c_t11, c_t12, c_t13, c_t14⟩
                          clear c_t0 c_t1 c_t2 c_t3 c_t4 c_t5 c_t6 c_t7 c_t8 c_t9 c_t10 c_t11 c_t12 c_t13 c_t14
                          obtain ⟨c_t0, c_t1, c_t2, c_t3, c_t4, c_t5, c_t6, c_t7, c_t8, c_t9, c_t10, c_t11, c_t12, c_t13, c_t14⟩ := hh
                          replace z_t := blt hb14 z_t
                          have hh := bc15 hb14 ⟨c_x0, c_x1, c_x2, c_x3, c_x4, c_x5, c_x6, c_x7, c_x8, c_x9, c_x10, c_x11, c_x12, c_x13, c_x14⟩
                          clear c_x0 c_x1 c_x2 c_x3 c_x4 c_x5 c_x6 c_x7 c_x8 c_x9 c_x10 c_x11 c_x12 c_x13 c_x14
                          obtain ⟨c_x0, c_x1, c_x2, c_x3, c_x4, c_x5, c_x6, c_x7, c_x8, c_x9, c_x10, c_x11, c_x12, c_x13, c_x14⟩ := hh
                          replace z_x := blt hb14 z_x
                          have hh := bc15 hb14 ⟨c_y0, c_y1, c_y2, c_y3, c_y4, c_y5, c_y6, c_y7, c_y8, c_y9, c_y10, c_y11, c_y12, c_y13, c_y14⟩
                          clear c_y0 c_y1 c_y2 c_y3 c_y4 c_y5 c_y6 c_y7 c_y8 c_y9 c_y10 c_y11 c_y12 c_y13 c_y14
                          obtain ⟨c_y0, c_y1, c_y2, c_y3, c_y4, c_y5, c_y6, c_y7, c_y8, c_y9, c_y10, c_y11, c_y12, c_y13, c_y14⟩ := hh
                          replace z_y := blt hb14 z_y
                          have HB14 := Lib.hid (below_via hb14 HB13.out HB13.out.size)
                          have HF14 := Lib.hid (below_via hb14 HF13.out HF13.out.size)
                          clear hb14 HB13 HF13
                          as_aux_lemma =>
                            go_upto_region 11 with (fail)
                            generalize Value.agg #[.int .u8 c.tag, .int .i64 c.most, .int .i64 c.seg, .int .i64 c.least, .int .i64 c.den, .int .i64 c.ll, .int .i64 c.rl, .int .i64 c.rh, .int .i64 c.lh, .int .i64 s.seg, .slice a1 s.ws.length k1, .slice a2 s.ks.length k2, .slice a3 s.vs.length k3, .slice a4 s.cs.length k4, .int .u64 s.laid] = uf0
                            generalize Value.agg #[.int .u8 c.tag, .int .i64 c.most, .int .i64 c.seg, .int .i64 c.least, .int .i64 c.den, .int .i64 c.ll, .int .i64 c.rl, .int .i64 c.rh, .int .i64 c.lh, .int .i64 s.seg, .slice wa s.ws.length wc, .slice ka s.ks.length kc, .slice va s.vs.length vc, .slice ca s.cs.length cc, .int .u64 s.laid] = uf1
                            have HN14 := Lib.hid (HN10.out.below HF14.out)
                            have HX14 := Lib.hid (HX10.out.below HF14.out)
                            have HY14 := Lib.hid (HY10.out.below HF14.out)
                            have HC14 := Lib.hid (below_via HF14.out HC10.out HC10.out.size)
                            have HE14 := Lib.hid (below_via HF14.out HE10.out HE10.out.size)
                            have HQ14 := Lib.hid (And.intro (owns_below HQ5.out.1 HE14.out) (And.intro (owns_below HQ5.out.2.1 HE14.out) (And.intro (owns_below HQ5.out.2.2.1 HE14.out) (owns_below HQ5.out.2.2.2 HE14.out))))
                            have HT14 : Hid (SlIn w14 s ⟨b1, b2, b3, b4, j1, j2, j3, j4⟩) := Lib.hid (by
                              obtain ⟨q1, q2, q3, q4⟩ := HQ14.out
                              obtain ⟨_, _, he1, i1, -⟩ := row_of_owns q1
                              obtain ⟨_, _, he2, i2, -⟩ := row_of_owns q2
                              obtain ⟨_, _, he3, i3, -⟩ := row_of_owns q3
                              obtain ⟨_, _, he4, i4, -⟩ := row_of_owns q4
                              cases he1
                              cases he2
                              cases he3
                              cases he4
                              exact ⟨i1, i2, i3, i4, HU.out⟩)
                            replace CO := Lib.hid (fun W' (h : Below w14.heap.size w14 W') => CO.out W' ⟨a1, a2, a3, a4, k1, k2, k3, k4⟩ (below_via h HB14.out HB14.out.size) (HN14.out.below h) HCC.out)
                            replace CM := Lib.hid (fun W' (h : Below w14.heap.size w14 W') => CM.out W' (below_via h HB14.out HB14.out.size))
                            replace S1 := Lib.hid (fun W' (h : Below w14.heap.size w14 W') => S1.out W' ⟨a1, a2, a3, a4, k1, k2, k3, k4⟩ (below_via h HB14.out HB14.out.size) (HN14.out.below h))
                            replace S2 := Lib.hid (fun W' (h : Below w14.heap.size w14 W') => S2.out W' (below_via h HB14.out HB14.out.size))
                            replace S3 := Lib.hid (fun W' (h : Below w14.heap.size w14 W') => S3.out W' ⟨a1, a2, a3, a4, k1, k2, k3, k4⟩ (below_via h HB14.out HB14.out.size) (HN14.out.below h))
                            have S6 := S4
                            replace S4 := Lib.hid (fun W' (h : Below w14.heap.size w14 W') => S4.out W' ⟨b1, b2, b3, b4, j1, j2, j3, j4⟩ (below_via h HB14.out HB14.out.size) (HT14.out.below h))
                            replace S5 := Lib.hid (fun W' (h : Below w14.heap.size w14 W') => S5.out W' ⟨e1, e2, e3, e4, l1, l2, l3, l4⟩ ⟨f1, f2, f3, f4, n1, n2, n3, n4⟩ (below_via h HB14.out HB14.out.size) (HX14.out.below h) (HY14.out.below h))
                            dsimp only [pmV] at CO CM S1 S2 S3 S4 S5
                            as_aux_lemma =>
                              refine Code.wp_mono ?_ (PT_reg w14 _ _ _ _ _ _ _ _ _ _ _ _ _ _ _ _ _ _ _ _ _ _ _ _ _ _ _ _ _ _ _ _ _ _ _ _ _ _ _ _ _ _ _ _ _ _ _ _ _ _ _ _ _ _ _ _ _ _ _ _ _ _ _ _ _ _ _ _ _ _ _ _ _ _ _ _ _ _ _ _ _ _ _ _ _ _ _ _ _ _ _ _ _ _ _ _ _ _ _ _ _ _ _ _ _ _ _ _ _ _ _ _ _ _ _ _ _ _ _ _ _ _ _ _ _ _ _ _ _ _ _ _ _ _ _ _ _ _ _ _ _ _ _ _ _ _ _ _ _ _ _ _ _ _ _ _ _ _ _ _ _ _ _ _ _ _ _ _ _ _ _ _ _ _ _ _ _ _ _ _ _ _ _ _ _ _ _ _ _ _ _ _ _ _ _ _ _ _ _ _ _ _ _ _ _ _ _ _ _ _ _ _ _ _ _ _ _ pe ce bb c_m0 c_m1 c_m2 c_m3 c_m4 c_m5 c_m6 c_m7 c_m8 c_m9 c_m10 c_m11 c_m12 c_m13 c_m14 c_o0 c_o1 c_o2 c_o3 c_o4 c_o5 c_o6 c_o7 c_o8 c_o9 c_o10 c_o11 c_o12 c_o13 c_o14 c_n0 c_n1 c_n2 c_n3 c_n4 c_n5 c_n6 c_n7 c_n8 c_n9 c_n10 c_n11 c_n12 c_n13 c_n14 c_t0 c_t1 c_t2 c_t3 c_t4 c_t5 c_t6 c_t7 c_t8 c_t9 c_t10 c_t11 c_t12 c_t13 c_t14 c_x0 c_x1 c_x2 c_x3 c_x4 c_x5 c_x6 c_x7 c_x8 c_x9 c_x10 c_x11 c_x12 c_x13 c_x14 c_y0 c_y1 c_y2 c_y3 c_y4 c_y5 c_y6 c_y7 c_y8 c_y9 c_y10 c_y11 c_y12 c_y13 c_y14 CO CM S1 S2 S3 S4 S5)
                              intro e a' w' hq
                              cases e with
                              | exit id => exact hq.elim
                              | goto l => exact hq.elim
                              | ret => exact hq.elim
                              | panic ch => exact hq.elim
                              | outgrown => exact hq.elim
                              | normal =>
                              obtain ⟨⟨dq, osq, rfl⟩, u66, u67, u68, u69, u70, u71, u72, u73, u74, u75, u76, u77, u78, u79, u80, u81, u82, u83, u84, u85, u86, u87, u88, u89, u90, u91, u92, u93, u94, u95, u96, u97, u98, u99, rfl⟩ := hq
                              have hbq := below_regrown w14 dq osq
                              clear CO CM S1 S2 S3 S4 S5
                              generalize Sort.grow (redrawn w14 dq) osq = wx at *
                              as_aux_lemma =>
                                have hz_wx := hbq.size
                                try simp only [World.size_alloc, World.size_setCell] at hz_wx
                                have hh := bc15 hbq ⟨c_m0, c_m1, c_m2, c_m3, c_m4, c_m5, c_m6, c_m7, c_m8, c_m9, c_m10, c_m11, c_m12, c_m13, c_m14⟩
                                clear c_m0 c_m1 c_m2 c_m3 c_m4 c_m5 c_m6 c_m7 c_m8 c_m9 c_m10 c_m11 c_m12 c_m13 c_m14
                                obtain ⟨c_m0, c_m1, c_m2, c_m3, c_m4, c_m5, c_m6, c_m7, c_m8, c_m9, c_m10, c_m11, c_m12, c_m13, c_m14⟩ := hh
                                replace z_m := blt hbq z_m
                                have hh := bc15 hbq ⟨c_n0, c_n1, c_n2, c_n3, c_n4, c_n5, c_n6, c_n7, c_n8, c_n9, c_n10, c_n11, c_n12, c_n13, c_n14⟩
                                clear c_n0 c_n1 c_n2 c_n3 c_n4 c_n5 c_n6 c_n7 c_n8 c_n9 c_n10 c_n11 c_n12 c_n13 c_n14
                                obtain ⟨c_n0, c_n1, c_n2, c_n3, c_n4, c_n5, c_n6, c_n7, c_n8, c_n9, c_n10, c_n11, c_n12, c_n13, c_n14⟩ := hh
                                replace z_n := blt hbq z_n
                                have hh := bc15 hbq ⟨c_t0, c_t1, c_t2, c_t3, c_t4, c_t5, c_t6, c_t7, c_t8, c_t9, c_t10, c_t11, c_t12, c_t13, c_t14⟩
                                clear c_t0 c_t1 c_t2 c_t3 c_t4 c_t5 c_t6 c_t7 c_t8 c_t9 c_t10 c_t11 c_t12 c_t13 c_t14
                                obtain ⟨c_t0, c_t1, c_t2, c_t3, c_t4, c_t5, c_t6, c_t7, c_t8, c_t9, c_t10, c_t11, c_t12, c_t13, c_t14⟩ := hh
                                replace z_t := blt hbq z_t
                                have HBx := Lib.hid (below_via hbq HB14.out HB14.out.size)
                                have HCx := Lib.hid (below_via hbq HC14.out HC14.out.size)
                                as_aux_lemma =>
                                  have SP := Lib.hid (spoil11_ok c s.seg s.laid w4.heap.size b1 b2 b3 b4 j1 j2 j3 j4 s.ws.length s.ks.length s.vs.length s.cs.length wx ⟨s.ws, rfl, owns_below HQ14.out.1 hbq⟩ ⟨s.ks, rfl, owns_below HQ14.out.2.1 hbq⟩ ⟨s.vs, rfl, owns_below HQ14.out.2.2.1 hbq⟩ ⟨s.cs, rfl, owns_below HQ14.out.2.2.2 hbq⟩ HNE.out HCx.out.size HBD.out.1 HBD.out.2.1 HBD.out.2.2.1 HBD.out.2.2.2)
                                  clear hbq HQ14
                                  as_aux_lemma =>
                                    go_wp2_with fail
                                    refine SP.out.mono ?_
                                    rintro e' wA ⟨⟨vv, rfl⟩, hbA⟩
                                    have HCA := Lib.hid (HCx.out.trans hbA)
                                    have hzA := hbA.size
                                    have hcA : ∀ {p : Addr} {v : Value}, p.block < w4.heap.size → wx.cell? p = some v → wA.cell? p = some v := fun hp hc => (hbA.cell hp).trans hc
                                    replace c_m0 := hcA (p := ⟨w.heap.size, 0, none⟩) (by dsimp only; omega) c_m0
                                    replace c_m1 := hcA (p := ⟨w.heap.size, 1, none⟩) (by dsimp only; omega) c_m1
                                    replace c_m2 := hcA (p := ⟨w.heap.size, 2, none⟩) (by dsimp only; omega) c_m2
                                    replace c_m3 := hcA (p := ⟨w.heap.size, 3, none⟩) (by dsimp only; omega) c_m3
                                    replace c_m4 := hcA (p := ⟨w.heap.size, 4, none⟩) (by dsimp only; omega) c_m4
                                    replace c_m5 := hcA (p := ⟨w.heap.size, 5, none⟩) (by dsimp only; omega) c_m5
                                    replace c_m6 := hcA (p := ⟨w.heap.size, 6, none⟩) (by dsimp only; omega) c_m6
                                    replace c_m7 := hcA (p := ⟨w.heap.size, 7, none⟩) (by dsimp only; omega) c_m7
                                    replace c_m8 := hcA (p := ⟨w.heap.size, 8, none⟩) (by dsimp only; omega) c_m8
                                    replace c_m9 := hcA (p := ⟨w.heap.size, 9, none⟩) (by dsimp only; omega) c_m9
                                    replace c_m10 := hcA (p := ⟨w.heap.size, 10, none⟩) (by dsimp only; omega) c_m10
                                    replace c_m11 := hcA (p := ⟨w.heap.size, 11, none⟩) (by dsimp only; omega) c_m11
                                    replace c_m12 := hcA (p := ⟨w.heap.size, 12, none⟩) (by dsimp only; omega) c_m12
                                    replace c_m13 := hcA (p := ⟨w.heap.size, 13, none⟩) (by dsimp only; omega) c_m13
                                    replace c_m14 := hcA (p := ⟨w.heap.size, 14, none⟩) (by dsimp only; omega) c_m14
                                    replace c_n0 := hcA (p := ⟨w3.heap.size, 0, none⟩) (by dsimp only; omega) c_n0
                                    replace c_n1 := hcA (p := ⟨w3.heap.size, 1, none⟩) (by dsimp only; omega) c_n1
                                    replace c_n2 := hcA (p := ⟨w3.heap.size, 2, none⟩) (by dsimp only; omega) c_n2
                                    replace c_n3 := hcA (p := ⟨w3.heap.size, 3, none⟩) (by dsimp only; omega) c_n3
                                    replace c_n4 := hcA (p := ⟨w3.heap.size, 4, none⟩) (by dsimp only; omega) c_n4
                                    replace c_n5 := hcA (p := ⟨w3.heap.size, 5, none⟩) (by dsimp only; omega) c_n5
                                    replace c_n6 := hcA (p := ⟨w3.heap.size, 6, none⟩) (by dsimp only; omega) c_n6
                                    replace c_n7 := hcA (p := ⟨w3.heap.size, 7, none⟩) (by dsimp only; omega) c_n7
                                    replace c_n8 := hcA (p := ⟨w3.heap.size, 8, none⟩) (by dsimp only; omega) c_n8
                                    replace c_n9 := hcA (p := ⟨w3.heap.size, 9, none⟩) (by dsimp only; omega) c_n9
                                    replace c_n10 := hcA (p := ⟨w3.heap.size, 10, none⟩) (by dsimp only; omega) c_n10
                                    replace c_n11 := hcA (p := ⟨w3.heap.size, 11, none⟩) (by dsimp only; omega) c_n11
                                    replace c_n12 := hcA (p := ⟨w3.heap.size, 12, none⟩) (by dsimp only; omega) c_n12
                                    replace c_n13 := hcA (p := ⟨w3.heap.size, 13, none⟩) (by dsimp only; omega) c_n13
                                    replace c_n14 := hcA (p := ⟨w3.heap.size, 14, none⟩) (by dsimp only; omega) c_n14
                                    have HBA := Lib.hid (below_via HCA.out HB4.out HB4.out.size)
                                    have SA := Lib.hid (S6.out wA ⟨a1, a2, a3, a4, k1, k2, k3, k4⟩ HBA.out (HN4'.out.below HCA.out))
                                    dsimp only [pmV] at SA
                                    clear hcA hbA
                                    as_aux_lemma =>
                                      go_wp2_with fail
                                      refine SA.out.mono ?_
                                      rintro e' wB ⟨rfl, hbB⟩
                                      have HBB := Lib.hid (below_via hbB HBA.out HBA.out.size)
                                      clear hbB
                                      as_aux_lemma =>
                                        go_wp2
                                        go_ret
                                        exact ⟨rfl, HBB.out⟩
end Go.Proofs.YtmnlagmmbfjbeaaGreatDoor

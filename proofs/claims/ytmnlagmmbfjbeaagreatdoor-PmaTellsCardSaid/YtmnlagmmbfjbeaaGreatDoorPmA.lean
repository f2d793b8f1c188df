/- Merged: PmCk, PmSl, PmSm. -/
import Derived.Test.YtmnlagmmbfjbeaaGreatDoorGapCkA
import Derived.Test.YtmnlagmmbfjbeaaGreatDoorSlTw
import Derived.Test.YtmnlagmmbfjbeaaGreatDoorRef09A
import Derived.Test.YtmnlagmmbfjbeaaGreatDoorSeekAll
import Derived.Test.YtmnlagmmbfjbeaaGreatDoorIdxEq
namespace Go.Proofs.YtmnlagmmbfjbeaaGreatDoor
set_option linter.unusedVariables false
set_option linter.unusedSimpArgs false
section
open Go.RowKit

/-- a map's value -/
def pmV (c : Cfg) (s : SlC) (a : SlA) : Value := .agg #[.int .u8 c.tag, .int .i64 c.most, .int .i64 c.seg, .int .i64 c.least, .int .i64 c.den, .int .i64 c.ll, .int .i64 c.rl, .int .i64 c.rh, .int .i64 c.lh, .int .i64 s.seg, .slice a.wa s.ws.length a.wc, .slice a.ka s.ks.length a.kc, .slice a.va s.vs.length a.vc, .slice a.ca s.cs.length a.cc, .int .u64 s.laid]
/-- what Check answers -/
def pmE (c : Cfg) (s : SlC) : Int := if gapE c s = 0 then seekE s else gapE c s
theorem Great11_ok (c : Cfg) (s : SlC) (a : SlA) (n : Nat) (w : World) :
    Calls Tryz.prog 5 #[pmV c s a, .int .i64 n] w (AnsB w (.bool (gr4 n s.ks.length s.vs.length s.ws.length s.cs.length))) := by
  obtain ⟨wa, ka, va, ca, wc, kc, vc, cc⟩ := a
  have GR := Lib.hid (fun W => Great04_ok s.seg wa ka va ca wc kc vc cc s.ws.length s.ks.length s.vs.length s.cs.length s.laid n W)
  dsimp only [pmV]
  generalize gr4 n s.ks.length s.vs.length s.ws.length s.cs.length = g at *
  go_enter Tryz.func5, Tryz.ntmps5
  go_wp2_with fail
  refine (GR.out _).mono ?_
  rintro e w1 ⟨rfl, hb1⟩
  have hz_w1 := hb1.size
  try simp only [World.size_alloc, World.size_setCell] at hz_w1
  have hh := bc15 hb1 (al15 (b := w.heap.size) (by simp))
  obtain ⟨c_t0, c_t1, c_t2, c_t3, c_t4, c_t5, c_t6, c_t7, c_t8, c_t9, c_t10, c_t11, c_t12, c_t13, c_t14⟩ := hh
  have z_t := blt hb1 (alz (b := w.heap.size) (by simp))
  have hB1 : Below w.heap.size w w1 := by (repeat (first | with_reducible (first | exact Below.refl _ _ | assumption | exact Hid.out (by assumption) | refine Below.alloc ?_ ?_ _ | refine Below.setCell ?_ ?_ _ | refine below_drewN ?_ _ | refine Below.drew ?_ | refine below_via (by assumption) ?_ ?_) | (first | (with_reducible assumption) | omega | (simp only [szW] <;> omega) | (simp <;> omega))))
  go_wp2
  go_ret
  exact ⟨rfl, hB1⟩
set_option maxRecDepth 100000 in
theorem Check11_core (c : Cfg) (s : SlC) (wa ka va ca : Option Addr) (wc kc vc cc : Nat) (g z : Int) (w : World)
    (GK : Hid (∀ W, Below w.heap.size w W → Calls Tryz.prog 34 #[.agg #[.int .u8 c.tag, .int .i64 c.most, .int .i64 c.seg, .int .i64 c.least, .int .i64 c.den, .int .i64 c.ll, .int .i64 c.rl, .int .i64 c.rh, .int .i64 c.lh], .agg #[.int .i64 s.seg, .slice wa s.ws.length wc, .slice ka s.ks.length kc, .slice va s.vs.length vc, .slice ca s.cs.length cc, .int .u64 s.laid]] W (AnsB W (.int .i64 g))))
    (SK : Hid (∀ W, Below w.heap.size w W → Calls Tryz.prog 35 #[.agg #[.int .i64 s.seg, .slice wa s.ws.length wc, .slice ka s.ks.length kc, .slice va s.vs.length vc, .slice ca s.cs.length cc, .int .u64 s.laid]] W (AnsB W (.int .i64 z)))) :
    Calls Tryz.prog 15 #[.agg #[.int .u8 c.tag, .int .i64 c.most, .int .i64 c.seg, .int .i64 c.least, .int .i64 c.den, .int .i64 c.ll, .int .i64 c.rl, .int .i64 c.rh, .int .i64 c.lh, .int .i64 s.seg, .slice wa s.ws.length wc, .slice ka s.ks.length kc, .slice va s.vs.length vc, .slice ca s.cs.length cc, .int .u64 s.laid]] w (AnsB w (.int .i64 (if g = 0 then z else g))) := by
  by_cases h : g = 0
  · rw [if_pos h]
    have g1 : (g != 0) = false := by simpa using h
    clear h
    go_enter Tryz.func15, Tryz.ntmps15
    go_wp2_with fail
    refine (GK.out _ (by (repeat (first | with_reducible (first | exact Below.refl _ _ | assumption | exact Hid.out (by assumption) | refine Below.alloc ?_ ?_ _ | refine Below.setCell ?_ ?_ _ | refine below_drewN ?_ _ | refine Below.drew ?_ | refine below_via (by assumption) ?_ ?_) | (first | (with_reducible assumption) | omega | (simp only [szW] <;> omega) | (simp <;> omega)))))).mono ?_
    rintro e w1 ⟨rfl, hb1⟩
    have hz_w1 := hb1.size
    try simp only [World.size_alloc, World.size_setCell] at hz_w1
    have hh := bc15 hb1 (al15 (b := w.heap.size) (by simp))
    obtain ⟨c_t0, c_t1, c_t2, c_t3, c_t4, c_t5, c_t6, c_t7, c_t8, c_t9, c_t10, c_t11, c_t12, c_t13, c_t14⟩ := hh
    have z_t := blt hb1 (alz (b := w.heap.size) (by simp))
    have hB1 : Below w.heap.size w w1 := by (repeat (first | with_reducible (first | exact Below.refl _ _ | assumption | exact Hid.out (by assumption) | refine Below.alloc ?_ ?_ _ | refine Below.setCell ?_ ?_ _ | refine below_drewN ?_ _ | refine Below.drew ?_ | refine below_via (by assumption) ?_ ?_) | (first | (with_reducible assumption) | omega | (simp only [szW] <;> omega) | (simp <;> omega))))
    have HB1 := Lib.hid hB1
    clear hb1 hB1
    go_wp2_with fail
    refine (SK.out _ HB1.out).mono ?_
    rintro e w2 ⟨rfl, hb2⟩
    have hz_w2 := hb2.size
    try simp only [World.size_alloc, World.size_setCell] at hz_w2
    have hh := bc15 hb2 ⟨c_t0, c_t1, c_t2, c_t3, c_t4, c_t5, c_t6, c_t7, c_t8, c_t9, c_t10, c_t11, c_t12, c_t13, c_t14⟩
    clear c_t0 c_t1 c_t2 c_t3 c_t4 c_t5 c_t6 c_t7 c_t8 c_t9 c_t10 c_t11 c_t12 c_t13 c_t14
    obtain ⟨c_t0, c_t1, c_t2, c_t3, c_t4, c_t5, c_t6, c_t7, c_t8, c_t9, c_t10, c_t11, c_t12, c_t13, c_t14⟩ := hh
    replace z_t := blt hb2 z_t
    have HB2 := Lib.hid (below_via hb2 HB1.out HB1.out.size)
    clear hb2
    go_wp2
    go_ret
    exact ⟨rfl, HB2.out⟩
  · rw [if_neg h]
    have g1 : (g != 0) = true := by simpa using h
    clear h SK
    go_enter Tryz.func15, Tryz.ntmps15
    go_wp2_with fail
    refine (GK.out _ (by (repeat (first | with_reducible (first | exact Below.refl _ _ | assumption | exact Hid.out (by assumption) | refine Below.alloc ?_ ?_ _ | refine Below.setCell ?_ ?_ _ | refine below_drewN ?_ _ | refine Below.drew ?_ | refine below_via (by assumption) ?_ ?_) | (first | (with_reducible assumption) | omega | (simp only [szW] <;> omega) | (simp <;> omega)))))).mono ?_
    rintro e w1 ⟨rfl, hb1⟩
    have hz_w1 := hb1.size
    try simp only [World.size_alloc, World.size_setCell] at hz_w1
    have hh := bc15 hb1 (al15 (b := w.heap.size) (by simp))
    obtain ⟨c_t0, c_t1, c_t2, c_t3, c_t4, c_t5, c_t6, c_t7, c_t8, c_t9, c_t10, c_t11, c_t12, c_t13, c_t14⟩ := hh
    have z_t := blt hb1 (alz (b := w.heap.size) (by simp))
    have hB1 : Below w.heap.size w w1 := by (repeat (first | with_reducible (first | exact Below.refl _ _ | assumption | exact Hid.out (by assumption) | refine Below.alloc ?_ ?_ _ | refine Below.setCell ?_ ?_ _ | refine below_drewN ?_ _ | refine Below.drew ?_ | refine below_via (by assumption) ?_ ?_) | (first | (with_reducible assumption) | omega | (simp only [szW] <;> omega) | (simp <;> omega))))
    go_wp2
    go_ret
    exact ⟨rfl, hB1⟩
set_option maxRecDepth 100000 in
theorem pmaCheck_core (c : Cfg) (s : SlC) (wa ka va ca : Option Addr) (wc kc vc cc : Nat) (g z : Int) (w : World)
    (GK : Hid (∀ W, Below w.heap.size w W → Calls Tryz.prog 32 #[.agg #[.int .u8 c.tag, .int .i64 c.most, .int .i64 c.seg, .int .i64 c.least, .int .i64 c.den, .int .i64 c.ll, .int .i64 c.rl, .int .i64 c.rh, .int .i64 c.lh], .agg #[.int .i64 s.seg, .slice wa s.ws.length wc, .slice ka s.ks.length kc, .slice va s.vs.length vc, .slice ca s.cs.length cc, .int .u64 s.laid]] W (AnsB W (.int .i64 g))))
    (SK : Hid (∀ W, Below w.heap.size w W → Calls Tryz.prog 33 #[.agg #[.int .i64 s.seg, .slice wa s.ws.length wc, .slice ka s.ks.length kc, .slice va s.vs.length vc, .slice ca s.cs.length cc, .int .u64 s.laid]] W (AnsB W (.int .i64 z)))) :
    Calls Tryz.prog 14 #[.agg #[.int .u8 c.tag, .int .i64 c.most, .int .i64 c.seg, .int .i64 c.least, .int .i64 c.den, .int .i64 c.ll, .int .i64 c.rl, .int .i64 c.rh, .int .i64 c.lh, .int .i64 s.seg, .slice wa s.ws.length wc, .slice ka s.ks.length kc, .slice va s.vs.length vc, .slice ca s.cs.length cc, .int .u64 s.laid]] w (AnsB w (.int .i64 (if g = 0 then z else g))) := by
  by_cases h : g = 0
  · rw [if_pos h]
    have g1 : (g != 0) = false := by simpa using h
    clear h
    go_enter Tryz.func14, Tryz.ntmps14
    go_wp2_with fail
    refine (GK.out _ (by (repeat (first | with_reducible (first | exact Below.refl _ _ | assumption | exact Hid.out (by assumption) | refine Below.alloc ?_ ?_ _ | refine Below.setCell ?_ ?_ _ | refine below_drewN ?_ _ | refine Below.drew ?_ | refine below_via (by assumption) ?_ ?_) | (first | (with_reducible assumption) | omega | (simp only [szW] <;> omega) | (simp <;> omega)))))).mono ?_
    rintro e w1 ⟨rfl, hb1⟩
    have hz_w1 := hb1.size
    try simp only [World.size_alloc, World.size_setCell] at hz_w1
    have hh := bc15 hb1 (al15 (b := w.heap.size) (by simp))
    obtain ⟨c_t0, c_t1, c_t2, c_t3, c_t4, c_t5, c_t6, c_t7, c_t8, c_t9, c_t10, c_t11, c_t12, c_t13, c_t14⟩ := hh
    have z_t := blt hb1 (alz (b := w.heap.size) (by simp))
    have hB1 : Below w.heap.size w w1 := by (repeat (first | with_reducible (first | exact Below.refl _ _ | assumption | exact Hid.out (by assumption) | refine Below.alloc ?_ ?_ _ | refine Below.setCell ?_ ?_ _ | refine below_drewN ?_ _ | refine Below.drew ?_ | refine below_via (by assumption) ?_ ?_) | (first | (with_reducible assumption) | omega | (simp only [szW] <;> omega) | (simp <;> omega))))
    have HB1 := Lib.hid hB1
    clear hb1 hB1
    go_wp2_with fail
    refine (SK.out _ HB1.out).mono ?_
    rintro e w2 ⟨rfl, hb2⟩
    have hz_w2 := hb2.size
    try simp only [World.size_alloc, World.size_setCell] at hz_w2
    have hh := bc15 hb2 ⟨c_t0, c_t1, c_t2, c_t3, c_t4, c_t5, c_t6, c_t7, c_t8, c_t9, c_t10, c_t11, c_t12, c_t13, c_t14⟩
    clear c_t0 c_t1 c_t2 c_t3 c_t4 c_t5 c_t6 c_t7 c_t8 c_t9 c_t10 c_t11 c_t12 c_t13 c_t14
    obtain ⟨c_t0, c_t1, c_t2, c_t3, c_t4, c_t5, c_t6, c_t7, c_t8, c_t9, c_t10, c_t11, c_t12, c_t13, c_t14⟩ := hh
    replace z_t := blt hb2 z_t
    have HB2 := Lib.hid (below_via hb2 HB1.out HB1.out.size)
    clear hb2
    go_wp2
    go_ret
    exact ⟨rfl, HB2.out⟩
  · rw [if_neg h]
    have g1 : (g != 0) = true := by simpa using h
    clear h SK
    go_enter Tryz.func14, Tryz.ntmps14
    go_wp2_with fail
    refine (GK.out _ (by (repeat (first | with_reducible (first | exact Below.refl _ _ | assumption | exact Hid.out (by assumption) | refine Below.alloc ?_ ?_ _ | refine Below.setCell ?_ ?_ _ | refine below_drewN ?_ _ | refine Below.drew ?_ | refine below_via (by assumption) ?_ ?_) | (first | (with_reducible assumption) | omega | (simp only [szW] <;> omega) | (simp <;> omega)))))).mono ?_
    rintro e w1 ⟨rfl, hb1⟩
    have hz_w1 := hb1.size
    try simp only [World.size_alloc, World.size_setCell] at hz_w1
    have hh := bc15 hb1 (al15 (b := w.heap.size) (by simp))
    obtain ⟨c_t0, c_t1, c_t2, c_t3, c_t4, c_t5, c_t6, c_t7, c_t8, c_t9, c_t10, c_t11, c_t12, c_t13, c_t14⟩ := hh
    have z_t := blt hb1 (alz (b := w.heap.size) (by simp))
    have hB1 : Below w.heap.size w w1 := by (repeat (first | with_reducible (first | exact Below.refl _ _ | assumption | exact Hid.out (by assumption) | refine Below.alloc ?_ ?_ _ | refine Below.setCell ?_ ?_ _ | refine below_drewN ?_ _ | refine Below.drew ?_ | refine below_via (by assumption) ?_ ?_) | (first | (with_reducible assumption) | omega | (simp only [szW] <;> omega) | (simp <;> omega))))
    go_wp2
    go_ret
    exact ⟨rfl, hB1⟩
theorem Check11_ok (c : Cfg) (s : SlC) (a : SlA) (hl : s.ws.length ≤ 1000000000000) (hl2 : s.ks.length ≤ 1000000000000) (w : World) (hin : SlIn w s a) :
    Calls Tryz.prog 15 #[pmV c s a] w (AnsB w (.int .i64 (pmE c s))) :=
  Check11_core c s a.wa a.ka a.va a.ca a.wc a.kc a.vc a.cc (gapE c s) (seekE s) w (Lib.hid fun W hb => Check09_ok c s a hl hl2 W (hin.below hb)) (Lib.hid fun W hb => Check10_ok s a hl hl2 W (hin.below hb))
theorem pmaCheck_ok (c : Cfg) (s : SlC) (a : SlA) (hl : s.ws.length ≤ 1000000000000) (hl2 : s.ks.length ≤ 1000000000000) (hcc : s.cs.length ≤ a.cc) (w : World) (hin : SlIn w s a) :
    Calls Tryz.prog 14 #[pmV c s a] w (AnsB w (.int .i64 (pmE c s))) :=
  pmaCheck_core c s a.wa a.ka a.va a.ca a.wc a.kc a.vc a.cc (gapE c s) (seekE s) w (Lib.hid fun W hb => gapCheck_ok c s a hl hl2 hcc W (hin.below hb)) (Lib.hid fun W hb => seekCheck_ok s a hl hl2 W (hin.below hb))
end

section
open Go.RowKit

theorem Equal_u64 (a b : Option Addr) (ca cb : Nat) (xs ys : List Int) (w : World) (ha : IsRow .u64 w a xs) (hb : IsRow .u64 w b ys) (hm : xs.length ≤ 1000000000) :
    Calls Tryz.prog 112 #[.slice a xs.length ca, .slice b ys.length cb] w fun e w' => e = .returned (.bool (decide (xs = ys))) ∧ ∃ n, w' = w.drewN n := by
  by_cases hlen : xs.length = ys.length
  · have hl1 : ((xs.length : Int) != (ys.length : Int)) = false := by simp [hlen]
    have HL := Lib.hid hlen
    clear hlen
    have HA := Lib.hid ha
    have HB := Lib.hid hb
    clear ha hb
    go_enter Tryz.func112, Tryz.ntmps112
    go_wp2
    go_loopg [13] xs.length (fun g i wr => ∃ (k n : Nat), k + g = xs.length ∧ i = .int .i64 k ∧ wr = w.drewN n ∧ xs.take k = ys.take k)
    case atStart => exact ⟨0, 0, by omega, rfl, rfl, by simp⟩
    case round =>
      obtain ⟨k, n, hk, rfl, rfl, ht⟩ := hrel
      have HT := Lib.hid ht
      clear ht
      by_cases hlt : k < xs.length
      · have hlt2 : k < ys.length := by rw [← HL.out]; exact hlt
        obtain ⟨b1, o1, x, rfl, hx, h1, _⟩ := HA.out.get hlt
        obtain ⟨b2, o2, y, rfl, hy, h2, _⟩ := HB.out.get hlt2
        by_cases heq : x = y
        · have he : (x != y) = false := by simpa using heq
          have HE := Lib.hid heq
          clear heq
          go_wp2
          go_quiet (fail)
          go_wp2
          go_roundg (gk - 1)
          case measure => omega
          case rel => exact ⟨k + 1, n + nq, by omega, by go_num, by simp, row_take_succ HL.out hlt HT.out (hx.out.trans (HE.out.trans hy.out.symm))⟩
        · have he : (x != y) = true := by simpa using heq
          have HE := Lib.hid heq
          clear heq
          go_wp2
          go_quiet (fail)
          go_wp2
          go_ret
          exact ⟨by have : xs ≠ ys := fun h => HE.out (by rw [← hx.out, ← hy.out, h])
                    simp [this], _, World.drewN_drewN _ _ _⟩
      · go_wp2
        go_ret
        have hk2 : k = xs.length := by omega
        have hxy : xs = ys := by
          have := HT.out
          rw [hk2, List.take_length, HL.out, List.take_length] at this
          exact this
        exact ⟨by simp [hxy], _, rfl⟩
  · have hl1 : ((xs.length : Int) != (ys.length : Int)) = true := by simp; omega
    have hxy : xs ≠ ys := fun h => hlen (by rw [h])
    have HX := Lib.hid hxy
    clear ha hb hlen hxy
    go_enter Tryz.func112, Tryz.ntmps112
    go_wp2
    go_ret
    exact ⟨by simp [HX.out], 0, rfl⟩

set_option maxRecDepth 100000 in
theorem occSame_ok (a b : Option Addr) (ca cb : Nat) (xs ys : List Int) (w : World) (ha : IsRow .u64 w a xs) (hb : IsRow .u64 w b ys) (hm : xs.length ≤ 1000000000) :
    Calls Tryz.prog 64 #[.slice a xs.length ca, .slice b ys.length cb] w (AnsB w (.bool (decide (xs = ys)))) := by
  have EQ := Lib.hid (ans_drewN (Equal_u64 a b ca cb xs ys w ha hb hm))
  generalize decide (xs = ys) = z at *
  clear ha hb hm
  go_enter Tryz.func64, Tryz.ntmps64
  go_wp2_with fail
  refine (EQ.out).mono ?_
  rintro e w1 ⟨rfl, hb1⟩
  have hz_w1 := hb1.size
  try simp only [World.size_alloc, World.size_setCell] at hz_w1
  go_wp2
  go_ret
  exact ⟨rfl, hb1⟩
/-- have two gapped arrays the same -/
def sameB (s t : SlC) : Bool := decide (s.seg = t.seg) && (decide (s.laid = t.laid) && (decide (s.ws = t.ws) && (decide (s.ks = t.ks) && (decide (s.vs = t.vs) && decide (s.cs = t.cs)))))
theorem sameB_refl (s : SlC) : sameB s s = true := by simp [sameB]
set_option maxRecDepth 100000 in
theorem Sm04_p0 (sg sg2 ld ld2 : Int) (wa ka va ca wa' ka' va' ca' : Option Addr) (wc kc vc cc wc' kc' vc' cc' lw lk lv lc lw' lk' lv' lc' : Nat) (w : World) (g1 : (sg == sg2) = false) :
    Calls Tryz.prog 37 #[.agg #[.int .i64 sg, .slice wa lw wc, .slice ka lk kc, .slice va lv vc, .slice ca lc cc, .int .u64 ld], .agg #[.int .i64 sg2, .slice wa' lw' wc', .slice ka' lk' kc', .slice va' lv' vc', .slice ca' lc' cc', .int .u64 ld2]] w (AnsB w (.bool false)) := by
  go_enter Tryz.func37, Tryz.ntmps37
  have hB0 : Below w.heap.size w ((w.alloc (.cells #[.int .i64 sg, .slice wa lw wc, .slice ka lk kc, .slice va lv vc, .slice ca lc cc, .int .u64 ld] 29)).alloc (.cells #[.int .i64 sg2, .slice wa' lw' wc', .slice ka' lk' kc', .slice va' lv' vc', .slice ca' lc' cc', .int .u64 ld2] 29)) := by (repeat (first | with_reducible (first | exact Below.refl _ _ | assumption | exact Hid.out (by assumption) | refine Below.alloc ?_ ?_ _ | refine Below.setCell ?_ ?_ _ | refine below_drewN ?_ _ | refine Below.drew ?_ | refine below_via (by assumption) ?_ ?_) | (first | (with_reducible assumption) | omega | (simp only [szW] <;> omega) | (simp <;> omega))))
  go_wp2
  go_ret
  exact ⟨rfl, hB0⟩
set_option maxRecDepth 100000 in
theorem Sm04_p1 (sg sg2 ld ld2 : Int) (wa ka va ca wa' ka' va' ca' : Option Addr) (wc kc vc cc wc' kc' vc' cc' lw lk lv lc lw' lk' lv' lc' : Nat) (w : World) (g1 : (sg == sg2) = true) (g2 : (ld == ld2) = false) :
    Calls Tryz.prog 37 #[.agg #[.int .i64 sg, .slice wa lw wc, .slice ka lk kc, .slice va lv vc, .slice ca lc cc, .int .u64 ld], .agg #[.int .i64 sg2, .slice wa' lw' wc', .slice ka' lk' kc', .slice va' lv' vc', .slice ca' lc' cc', .int .u64 ld2]] w (AnsB w (.bool false)) := by
  go_enter Tryz.func37, Tryz.ntmps37
  have hB0 : Below w.heap.size w ((w.alloc (.cells #[.int .i64 sg, .slice wa lw wc, .slice ka lk kc, .slice va lv vc, .slice ca lc cc, .int .u64 ld] 29)).alloc (.cells #[.int .i64 sg2, .slice wa' lw' wc', .slice ka' lk' kc', .slice va' lv' vc', .slice ca' lc' cc', .int .u64 ld2] 29)) := by (repeat (first | with_reducible (first | exact Below.refl _ _ | assumption | exact Hid.out (by assumption) | refine Below.alloc ?_ ?_ _ | refine Below.setCell ?_ ?_ _ | refine below_drewN ?_ _ | refine Below.drew ?_ | refine below_via (by assumption) ?_ ?_) | (first | (with_reducible assumption) | omega | (simp only [szW] <;> omega) | (simp <;> omega))))
  go_wp2
  go_ret
  exact ⟨rfl, hB0⟩
set_option maxRecDepth 100000 in
theorem Sm04_p2 (sg sg2 ld ld2 : Int) (wa ka va ca wa' ka' va' ca' : Option Addr) (wc kc vc cc wc' kc' vc' cc' lw lk lv lc lw' lk' lv' lc' : Nat) (w : World) (g1 : (sg == sg2) = true) (g2 : (ld == ld2) = true) (HW : Hid (∀ W, Below w.heap.size w W → Calls Tryz.prog 67 #[.slice wa lw wc, .slice wa' lw' wc'] W (AnsB W (.bool false)))) :
    Calls Tryz.prog 37 #[.agg #[.int .i64 sg, .slice wa lw wc, .slice ka lk kc, .slice va lv vc, .slice ca lc cc, .int .u64 ld], .agg #[.int .i64 sg2, .slice wa' lw' wc', .slice ka' lk' kc', .slice va' lv' vc', .slice ca' lc' cc', .int .u64 ld2]] w (AnsB w (.bool false)) := by
  go_enter Tryz.func37, Tryz.ntmps37
  go_wp2_with fail
  refine (HW.out _ (by (repeat (first | with_reducible (first | exact Below.refl _ _ | assumption | exact Hid.out (by assumption) | refine Below.alloc ?_ ?_ _ | refine Below.setCell ?_ ?_ _ | refine below_drewN ?_ _ | refine Below.drew ?_ | refine below_via (by assumption) ?_ ?_) | (first | (with_reducible assumption) | omega | (simp only [szW] <;> omega) | (simp <;> omega)))))).mono ?_
  rintro e w1 ⟨rfl, hb1⟩
  have hz_w1 := hb1.size
  try simp only [World.size_alloc, World.size_setCell] at hz_w1
  have hh := bc6 hb1 (au6 (al6 (b := w.heap.size) (by simp)))
  obtain ⟨c_t0, c_t1, c_t2, c_t3, c_t4, c_t5⟩ := hh
  have z_t := blt hb1 (auz (alz (b := w.heap.size) (by simp)))
  have hh := bc6 hb1 (al6 (b := w.heap.size + 1) (by simp))
  obtain ⟨c_o0, c_o1, c_o2, c_o3, c_o4, c_o5⟩ := hh
  have z_o := blt hb1 (alz (b := w.heap.size + 1) (by simp))
  have hB1 : Below w.heap.size w w1 := by (repeat (first | with_reducible (first | exact Below.refl _ _ | assumption | exact Hid.out (by assumption) | refine Below.alloc ?_ ?_ _ | refine Below.setCell ?_ ?_ _ | refine below_drewN ?_ _ | refine Below.drew ?_ | refine below_via (by assumption) ?_ ?_) | (first | (with_reducible assumption) | omega | (simp only [szW] <;> omega) | (simp <;> omega))))
  go_wp2
  go_ret
  exact ⟨rfl, hB1⟩
set_option maxRecDepth 100000 in
theorem Sm04_p3 (sg sg2 ld ld2 : Int) (wa ka va ca wa' ka' va' ca' : Option Addr) (wc kc vc cc wc' kc' vc' cc' lw lk lv lc lw' lk' lv' lc' : Nat) (w : World) (g1 : (sg == sg2) = true) (g2 : (ld == ld2) = true) (HW : Hid (∀ W, Below w.heap.size w W → Calls Tryz.prog 67 #[.slice wa lw wc, .slice wa' lw' wc'] W (AnsB W (.bool true)))) (HK : Hid (∀ W, Below w.heap.size w W → Calls Tryz.prog 68 #[.slice ka lk kc, .slice ka' lk' kc'] W (AnsB W (.bool false)))) :
    Calls Tryz.prog 37 #[.agg #[.int .i64 sg, .slice wa lw wc, .slice ka lk kc, .slice va lv vc, .slice ca lc cc, .int .u64 ld], .agg #[.int .i64 sg2, .slice wa' lw' wc', .slice ka' lk' kc', .slice va' lv' vc', .slice ca' lc' cc', .int .u64 ld2]] w (AnsB w (.bool false)) := by
  go_enter Tryz.func37, Tryz.ntmps37
  go_wp2_with fail
  refine (HW.out _ (by (repeat (first | with_reducible (first | exact Below.refl _ _ | assumption | exact Hid.out (by assumption) | refine Below.alloc ?_ ?_ _ | refine Below.setCell ?_ ?_ _ | refine below_drewN ?_ _ | refine Below.drew ?_ | refine below_via (by assumption) ?_ ?_) | (first | (with_reducible assumption) | omega | (simp only [szW] <;> omega) | (simp <;> omega)))))).mono ?_
  rintro e w1 ⟨rfl, hb1⟩
  have hz_w1 := hb1.size
  try simp only [World.size_alloc, World.size_setCell] at hz_w1
  have hh := bc6 hb1 (au6 (al6 (b := w.heap.size) (by simp)))
  obtain ⟨c_t0, c_t1, c_t2, c_t3, c_t4, c_t5⟩ := hh
  have z_t := blt hb1 (auz (alz (b := w.heap.size) (by simp)))
  have hh := bc6 hb1 (al6 (b := w.heap.size + 1) (by simp))
  obtain ⟨c_o0, c_o1, c_o2, c_o3, c_o4, c_o5⟩ := hh
  have z_o := blt hb1 (alz (b := w.heap.size + 1) (by simp))
  have hB1 : Below w.heap.size w w1 := by (repeat (first | with_reducible (first | exact Below.refl _ _ | assumption | exact Hid.out (by assumption) | refine Below.alloc ?_ ?_ _ | refine Below.setCell ?_ ?_ _ | refine below_drewN ?_ _ | refine Below.drew ?_ | refine below_via (by assumption) ?_ ?_) | (first | (with_reducible assumption) | omega | (simp only [szW] <;> omega) | (simp <;> omega))))
  go_wp2_with fail
  refine (HK.out _ hB1).mono ?_
  rintro e w2 ⟨rfl, hb2⟩
  have hz_w2 := hb2.size
  try simp only [World.size_alloc, World.size_setCell] at hz_w2
  have hh := bc6 hb2 ⟨c_t0, c_t1, c_t2, c_t3, c_t4, c_t5⟩
  clear c_t0 c_t1 c_t2 c_t3 c_t4 c_t5
  obtain ⟨c_t0, c_t1, c_t2, c_t3, c_t4, c_t5⟩ := hh
  replace z_t := blt hb2 z_t
  have hh := bc6 hb2 ⟨c_o0, c_o1, c_o2, c_o3, c_o4, c_o5⟩
  clear c_o0 c_o1 c_o2 c_o3 c_o4 c_o5
  obtain ⟨c_o0, c_o1, c_o2, c_o3, c_o4, c_o5⟩ := hh
  replace z_o := blt hb2 z_o
  have hB2 : Below w.heap.size w w2 := by (repeat (first | with_reducible (first | exact Below.refl _ _ | assumption | exact Hid.out (by assumption) | refine Below.alloc ?_ ?_ _ | refine Below.setCell ?_ ?_ _ | refine below_drewN ?_ _ | refine Below.drew ?_ | refine below_via (by assumption) ?_ ?_) | (first | (with_reducible assumption) | omega | (simp only [szW] <;> omega) | (simp <;> omega))))
  go_wp2
  go_ret
  exact ⟨rfl, hB2⟩
set_option maxRecDepth 100000 in
theorem Sm04_p4 (sg sg2 ld ld2 : Int) (wa ka va ca wa' ka' va' ca' : Option Addr) (wc kc vc cc wc' kc' vc' cc' lw lk lv lc lw' lk' lv' lc' : Nat) (w : World) (g1 : (sg == sg2) = true) (g2 : (ld == ld2) = true) (HW : Hid (∀ W, Below w.heap.size w W → Calls Tryz.prog 67 #[.slice wa lw wc, .slice wa' lw' wc'] W (AnsB W (.bool true)))) (HK : Hid (∀ W, Below w.heap.size w W → Calls Tryz.prog 68 #[.slice ka lk kc, .slice ka' lk' kc'] W (AnsB W (.bool true)))) (HV : Hid (∀ W, Below w.heap.size w W → Calls Tryz.prog 68 #[.slice va lv vc, .slice va' lv' vc'] W (AnsB W (.bool false)))) :
    Calls Tryz.prog 37 #[.agg #[.int .i64 sg, .slice wa lw wc, .slice ka lk kc, .slice va lv vc, .slice ca lc cc, .int .u64 ld], .agg #[.int .i64 sg2, .slice wa' lw' wc', .slice ka' lk' kc', .slice va' lv' vc', .slice ca' lc' cc', .int .u64 ld2]] w (AnsB w (.bool false)) := by
  go_enter Tryz.func37, Tryz.ntmps37
  go_wp2_with fail
  refine (HW.out _ (by (repeat (first | with_reducible (first | exact Below.refl _ _ | assumption | exact Hid.out (by assumption) | refine Below.alloc ?_ ?_ _ | refine Below.setCell ?_ ?_ _ | refine below_drewN ?_ _ | refine Below.drew ?_ | refine below_via (by assumption) ?_ ?_) | (first | (with_reducible assumption) | omega | (simp only [szW] <;> omega) | (simp <;> omega)))))).mono ?_
  rintro e w1 ⟨rfl, hb1⟩
  have hz_w1 := hb1.size
  try simp only [World.size_alloc, World.size_setCell] at hz_w1
  have hh := bc6 hb1 (au6 (al6 (b := w.heap.size) (by simp)))
  obtain ⟨c_t0, c_t1, c_t2, c_t3, c_t4, c_t5⟩ := hh
  have z_t := blt hb1 (auz (alz (b := w.heap.size) (by simp)))
  have hh := bc6 hb1 (al6 (b := w.heap.size + 1) (by simp))
  obtain ⟨c_o0, c_o1, c_o2, c_o3, c_o4, c_o5⟩ := hh
  have z_o := blt hb1 (alz (b := w.heap.size + 1) (by simp))
  have hB1 : Below w.heap.size w w1 := by (repeat (first | with_reducible (first | exact Below.refl _ _ | assumption | exact Hid.out (by assumption) | refine Below.alloc ?_ ?_ _ | refine Below.setCell ?_ ?_ _ | refine below_drewN ?_ _ | refine Below.drew ?_ | refine below_via (by assumption) ?_ ?_) | (first | (with_reducible assumption) | omega | (simp only [szW] <;> omega) | (simp <;> omega))))
  go_wp2_with fail
  refine (HK.out _ hB1).mono ?_
  rintro e w2 ⟨rfl, hb2⟩
  have hz_w2 := hb2.size
  try simp only [World.size_alloc, World.size_setCell] at hz_w2
  have hh := bc6 hb2 ⟨c_t0, c_t1, c_t2, c_t3, c_t4, c_t5⟩
  clear c_t0 c_t1 c_t2 c_t3 c_t4 c_t5
  obtain ⟨c_t0, c_t1, c_t2, c_t3, c_t4, c_t5⟩ := hh
  replace z_t := blt hb2 z_t
  have hh := bc6 hb2 ⟨c_o0, c_o1, c_o2, c_o3, c_o4, c_o5⟩
  clear c_o0 c_o1 c_o2 c_o3 c_o4 c_o5
  obtain ⟨c_o0, c_o1, c_o2, c_o3, c_o4, c_o5⟩ := hh
  replace z_o := blt hb2 z_o
  have hB2 : Below w.heap.size w w2 := by (repeat (first | with_reducible (first | exact Below.refl _ _ | assumption | exact Hid.out (by assumption) | refine Below.alloc ?_ ?_ _ | refine Below.setCell ?_ ?_ _ | refine below_drewN ?_ _ | refine Below.drew ?_ | refine below_via (by assumption) ?_ ?_) | (first | (with_reducible assumption) | omega | (simp only [szW] <;> omega) | (simp <;> omega))))
  go_wp2_with fail
  refine (HV.out _ hB2).mono ?_
  rintro e w3 ⟨rfl, hb3⟩
  have hz_w3 := hb3.size
  try simp only [World.size_alloc, World.size_setCell] at hz_w3
  have hh := bc6 hb3 ⟨c_t0, c_t1, c_t2, c_t3, c_t4, c_t5⟩
  clear c_t0 c_t1 c_t2 c_t3 c_t4 c_t5
  obtain ⟨c_t0, c_t1, c_t2, c_t3, c_t4, c_t5⟩ := hh
  replace z_t := blt hb3 z_t
  have hh := bc6 hb3 ⟨c_o0, c_o1, c_o2, c_o3, c_o4, c_o5⟩
  clear c_o0 c_o1 c_o2 c_o3 c_o4 c_o5
  obtain ⟨c_o0, c_o1, c_o2, c_o3, c_o4, c_o5⟩ := hh
  replace z_o := blt hb3 z_o
  have hB3 : Below w.heap.size w w3 := by (repeat (first | with_reducible (first | exact Below.refl _ _ | assumption | exact Hid.out (by assumption) | refine Below.alloc ?_ ?_ _ | refine Below.setCell ?_ ?_ _ | refine below_drewN ?_ _ | refine Below.drew ?_ | refine below_via (by assumption) ?_ ?_) | (first | (with_reducible assumption) | omega | (simp only [szW] <;> omega) | (simp <;> omega))))
  go_wp2
  go_ret
  exact ⟨rfl, hB3⟩
set_option maxRecDepth 100000 in
theorem Sm04_p5 (sg sg2 ld ld2 : Int) (wa ka va ca wa' ka' va' ca' : Option Addr) (wc kc vc cc wc' kc' vc' cc' lw lk lv lc lw' lk' lv' lc' : Nat) (w : World) (g1 : (sg == sg2) = true) (g2 : (ld == ld2) = true) (HW : Hid (∀ W, Below w.heap.size w W → Calls Tryz.prog 67 #[.slice wa lw wc, .slice wa' lw' wc'] W (AnsB W (.bool true)))) (HK : Hid (∀ W, Below w.heap.size w W → Calls Tryz.prog 68 #[.slice ka lk kc, .slice ka' lk' kc'] W (AnsB W (.bool true)))) (HV : Hid (∀ W, Below w.heap.size w W → Calls Tryz.prog 68 #[.slice va lv vc, .slice va' lv' vc'] W (AnsB W (.bool true)))) (HN : Hid (∀ W, Below w.heap.size w W → Calls Tryz.prog 69 #[.slice ca lc cc, .slice ca' lc' cc'] W (AnsB W (.bool false)))) :
    Calls Tryz.prog 37 #[.agg #[.int .i64 sg, .slice wa lw wc, .slice ka lk kc, .slice va lv vc, .slice ca lc cc, .int .u64 ld], .agg #[.int .i64 sg2, .slice wa' lw' wc', .slice ka' lk' kc', .slice va' lv' vc', .slice ca' lc' cc', .int .u64 ld2]] w (AnsB w (.bool false)) := by
  go_enter Tryz.func37, Tryz.ntmps37
  go_wp2_with fail
  refine (HW.out _ (by (repeat (first | with_reducible (first | exact Below.refl _ _ | assumption | exact Hid.out (by assumption) | refine Below.alloc ?_ ?_ _ | refine Below.setCell ?_ ?_ _ | refine below_drewN ?_ _ | refine Below.drew ?_ | refine below_via (by assumption) ?_ ?_) | (first | (with_reducible assumption) | omega | (simp only [szW] <;> omega) | (simp <;> omega)))))).mono ?_
  rintro e w1 ⟨rfl, hb1⟩
  have hz_w1 := hb1.size
  try simp only [World.size_alloc, World.size_setCell] at hz_w1
  have hh := bc6 hb1 (au6 (al6 (b := w.heap.size) (by simp)))
  obtain ⟨c_t0, c_t1, c_t2, c_t3, c_t4, c_t5⟩ := hh
  have z_t := blt hb1 (auz (alz (b := w.heap.size) (by simp)))
  have hh := bc6 hb1 (al6 (b := w.heap.size + 1) (by simp))
  obtain ⟨c_o0, c_o1, c_o2, c_o3, c_o4, c_o5⟩ := hh
  have z_o := blt hb1 (alz (b := w.heap.size + 1) (by simp))
  have hB1 : Below w.heap.size w w1 := by (repeat (first | with_reducible (first | exact Below.refl _ _ | assumption | exact Hid.out (by assumption) | refine Below.alloc ?_ ?_ _ | refine Below.setCell ?_ ?_ _ | refine below_drewN ?_ _ | refine Below.drew ?_ | refine below_via (by assumption) ?_ ?_) | (first | (with_reducible assumption) | omega | (simp only [szW] <;> omega) | (simp <;> omega))))
  go_wp2_with fail
  refine (HK.out _ hB1).mono ?_
  rintro e w2 ⟨rfl, hb2⟩
  have hz_w2 := hb2.size
  try simp only [World.size_alloc, World.size_setCell] at hz_w2
  have hh := bc6 hb2 ⟨c_t0, c_t1, c_t2, c_t3, c_t4, c_t5⟩
  clear c_t0 c_t1 c_t2 c_t3 c_t4 c_t5
  obtain ⟨c_t0, c_t1, c_t2, c_t3, c_t4, c_t5⟩ := hh
  replace z_t := blt hb2 z_t
  have hh := bc6 hb2 ⟨c_o0, c_o1, c_o2, c_o3, c_o4, c_o5⟩
  clear c_o0 c_o1 c_o2 c_o3 c_o4 c_o5
  obtain ⟨c_o0, c_o1, c_o2, c_o3, c_o4, c_o5⟩ := hh
  replace z_o := blt hb2 z_o
  have hB2 : Below w.heap.size w w2 := by (repeat (first | with_reducible (first | exact Below.refl _ _ | assumption | exact Hid.out (by assumption) | refine Below.alloc ?_ ?_ _ | refine Below.setCell ?_ ?_ _ | refine below_drewN ?_ _ | refine Below.drew ?_ | refine below_via (by assumption) ?_ ?_) | (first | (with_reducible assumption) | omega | (simp only [szW] <;> omega) | (simp <;> omega))))
  go_wp2_with fail
  refine (HV.out _ hB2).mono ?_
  rintro e w3 ⟨rfl, hb3⟩
  have hz_w3 := hb3.size
  try simp only [World.size_alloc, World.size_setCell] at hz_w3
  have hh := bc6 hb3 ⟨c_t0, c_t1, c_t2, c_t3, c_t4, c_t5⟩
  clear c_t0 c_t1 c_t2 c_t3 c_t4 c_t5
  obtain ⟨c_t0, c_t1, c_t2, c_t3, c_t4, c_t5⟩ := hh
  replace z_t := blt hb3 z_t
  have hh := bc6 hb3 ⟨c_o0, c_o1, c_o2, c_o3, c_o4, c_o5⟩
  clear c_o0 c_o1 c_o2 c_o3 c_o4 c_o5
  obtain ⟨c_o0, c_o1, c_o2, c_o3, c_o4, c_o5⟩ := hh
  replace z_o := blt hb3 z_o
  have hB3 : Below w.heap.size w w3 := by (repeat (first | with_reducible (first | exact Below.refl _ _ | assumption | exact Hid.out (by assumption) | refine Below.alloc ?_ ?_ _ | refine Below.setCell ?_ ?_ _ | refine below_drewN ?_ _ | refine Below.drew ?_ | refine below_via (by assumption) ?_ ?_) | (first | (with_reducible assumption) | omega | (simp only [szW] <;> omega) | (simp <;> omega))))
  go_wp2_with fail
  refine (HN.out _ hB3).mono ?_
  rintro e w4 ⟨rfl, hb4⟩
  have hz_w4 := hb4.size
  try simp only [World.size_alloc, World.size_setCell] at hz_w4
  have hh := bc6 hb4 ⟨c_t0, c_t1, c_t2, c_t3, c_t4, c_t5⟩
  clear c_t0 c_t1 c_t2 c_t3 c_t4 c_t5
  obtain ⟨c_t0, c_t1, c_t2, c_t3, c_t4, c_t5⟩ := hh
  replace z_t := blt hb4 z_t
  have hh := bc6 hb4 ⟨c_o0, c_o1, c_o2, c_o3, c_o4, c_o5⟩
  clear c_o0 c_o1 c_o2 c_o3 c_o4 c_o5
  obtain ⟨c_o0, c_o1, c_o2, c_o3, c_o4, c_o5⟩ := hh
  replace z_o := blt hb4 z_o
  have hB4 : Below w.heap.size w w4 := by (repeat (first | with_reducible (first | exact Below.refl _ _ | assumption | exact Hid.out (by assumption) | refine Below.alloc ?_ ?_ _ | refine Below.setCell ?_ ?_ _ | refine below_drewN ?_ _ | refine Below.drew ?_ | refine below_via (by assumption) ?_ ?_) | (first | (with_reducible assumption) | omega | (simp only [szW] <;> omega) | (simp <;> omega))))
  go_wp2
  go_ret
  exact ⟨rfl, hB4⟩
set_option maxRecDepth 100000 in
theorem Sm04_p6 (sg sg2 ld ld2 : Int) (wa ka va ca wa' ka' va' ca' : Option Addr) (wc kc vc cc wc' kc' vc' cc' lw lk lv lc lw' lk' lv' lc' : Nat) (w : World) (g1 : (sg == sg2) = true) (g2 : (ld == ld2) = true) (HW : Hid (∀ W, Below w.heap.size w W → Calls Tryz.prog 67 #[.slice wa lw wc, .slice wa' lw' wc'] W (AnsB W (.bool true)))) (HK : Hid (∀ W, Below w.heap.size w W → Calls Tryz.prog 68 #[.slice ka lk kc, .slice ka' lk' kc'] W (AnsB W (.bool true)))) (HV : Hid (∀ W, Below w.heap.size w W → Calls Tryz.prog 68 #[.slice va lv vc, .slice va' lv' vc'] W (AnsB W (.bool true)))) (HN : Hid (∀ W, Below w.heap.size w W → Calls Tryz.prog 69 #[.slice ca lc cc, .slice ca' lc' cc'] W (AnsB W (.bool true)))) :
    Calls Tryz.prog 37 #[.agg #[.int .i64 sg, .slice wa lw wc, .slice ka lk kc, .slice va lv vc, .slice ca lc cc, .int .u64 ld], .agg #[.int .i64 sg2, .slice wa' lw' wc', .slice ka' lk' kc', .slice va' lv' vc', .slice ca' lc' cc', .int .u64 ld2]] w (AnsB w (.bool true)) := by
  go_enter Tryz.func37, Tryz.ntmps37
  go_wp2_with fail
  refine (HW.out _ (by (repeat (first | with_reducible (first | exact Below.refl _ _ | assumption | exact Hid.out (by assumption) | refine Below.alloc ?_ ?_ _ | refine Below.setCell ?_ ?_ _ | refine below_drewN ?_ _ | refine Below.drew ?_ | refine below_via (by assumption) ?_ ?_) | (first | (with_reducible assumption) | omega | (simp only [szW] <;> omega) | (simp <;> omega)))))).mono ?_
  rintro e w1 ⟨rfl, hb1⟩
  have hz_w1 := hb1.size
  try simp only [World.size_alloc, World.size_setCell] at hz_w1
  have hh := bc6 hb1 (au6 (al6 (b := w.heap.size) (by simp)))
  obtain ⟨c_t0, c_t1, c_t2, c_t3, c_t4, c_t5⟩ := hh
  have z_t := blt hb1 (auz (alz (b := w.heap.size) (by simp)))
  have hh := bc6 hb1 (al6 (b := w.heap.size + 1) (by simp))
  obtain ⟨c_o0, c_o1, c_o2, c_o3, c_o4, c_o5⟩ := hh
  have z_o := blt hb1 (alz (b := w.heap.size + 1) (by simp))
  have hB1 : Below w.heap.size w w1 := by (repeat (first | with_reducible (first | exact Below.refl _ _ | assumption | exact Hid.out (by assumption) | refine Below.alloc ?_ ?_ _ | refine Below.setCell ?_ ?_ _ | refine below_drewN ?_ _ | refine Below.drew ?_ | refine below_via (by assumption) ?_ ?_) | (first | (with_reducible assumption) | omega | (simp only [szW] <;> omega) | (simp <;> omega))))
  go_wp2_with fail
  refine (HK.out _ hB1).mono ?_
  rintro e w2 ⟨rfl, hb2⟩
  have hz_w2 := hb2.size
  try simp only [World.size_alloc, World.size_setCell] at hz_w2
  have hh := bc6 hb2 ⟨c_t0, c_t1, c_t2, c_t3, c_t4, c_t5⟩
  clear c_t0 c_t1 c_t2 c_t3 c_t4 c_t5
  obtain ⟨c_t0, c_t1, c_t2, c_t3, c_t4, c_t5⟩ := hh
  replace z_t := blt hb2 z_t
  have hh := bc6 hb2 ⟨c_o0, c_o1, c_o2, c_o3, c_o4, c_o5⟩
  clear c_o0 c_o1 c_o2 c_o3 c_o4 c_o5
  obtain ⟨c_o0, c_o1, c_o2, c_o3, c_o4, c_o5⟩ := hh
  replace z_o := blt hb2 z_o
  have hB2 : Below w.heap.size w w2 := by (repeat (first | with_reducible (first | exact Below.refl _ _ | assumption | exact Hid.out (by assumption) | refine Below.alloc ?_ ?_ _ | refine Below.setCell ?_ ?_ _ | refine below_drewN ?_ _ | refine Below.drew ?_ | refine below_via (by assumption) ?_ ?_) | (first | (with_reducible assumption) | omega | (simp only [szW] <;> omega) | (simp <;> omega))))
  go_wp2_with fail
  refine (HV.out _ hB2).mono ?_
  rintro e w3 ⟨rfl, hb3⟩
  have hz_w3 := hb3.size
  try simp only [World.size_alloc, World.size_setCell] at hz_w3
  have hh := bc6 hb3 ⟨c_t0, c_t1, c_t2, c_t3, c_t4, c_t5⟩
  clear c_t0 c_t1 c_t2 c_t3 c_t4 c_t5
  obtain ⟨c_t0, c_t1, c_t2, c_t3, c_t4, c_t5⟩ := hh
  replace z_t := blt hb3 z_t
  have hh := bc6 hb3 ⟨c_o0, c_o1, c_o2, c_o3, c_o4, c_o5⟩
  clear c_o0 c_o1 c_o2 c_o3 c_o4 c_o5
  obtain ⟨c_o0, c_o1, c_o2, c_o3, c_o4, c_o5⟩ := hh
  replace z_o := blt hb3 z_o
  have hB3 : Below w.heap.size w w3 := by (repeat (first | with_reducible (first | exact Below.refl _ _ | assumption | exact Hid.out (by assumption) | refine Below.alloc ?_ ?_ _ | refine Below.setCell ?_ ?_ _ | refine below_drewN ?_ _ | refine Below.drew ?_ | refine below_via (by assumption) ?_ ?_) | (first | (with_reducible assumption) | omega | (simp only [szW] <;> omega) | (simp <;> omega))))
  go_wp2_with fail
  refine (HN.out _ hB3).mono ?_
  rintro e w4 ⟨rfl, hb4⟩
  have hz_w4 := hb4.size
  try simp only [World.size_alloc, World.size_setCell] at hz_w4
  have hh := bc6 hb4 ⟨c_t0, c_t1, c_t2, c_t3, c_t4, c_t5⟩
  clear c_t0 c_t1 c_t2 c_t3 c_t4 c_t5
  obtain ⟨c_t0, c_t1, c_t2, c_t3, c_t4, c_t5⟩ := hh
  replace z_t := blt hb4 z_t
  have hh := bc6 hb4 ⟨c_o0, c_o1, c_o2, c_o3, c_o4, c_o5⟩
  clear c_o0 c_o1 c_o2 c_o3 c_o4 c_o5
  obtain ⟨c_o0, c_o1, c_o2, c_o3, c_o4, c_o5⟩ := hh
  replace z_o := blt hb4 z_o
  have hB4 : Below w.heap.size w w4 := by (repeat (first | with_reducible (first | exact Below.refl _ _ | assumption | exact Hid.out (by assumption) | refine Below.alloc ?_ ?_ _ | refine Below.setCell ?_ ?_ _ | refine below_drewN ?_ _ | refine Below.drew ?_ | refine below_via (by assumption) ?_ ?_) | (first | (with_reducible assumption) | omega | (simp only [szW] <;> omega) | (simp <;> omega))))
  go_wp2
  go_ret
  exact ⟨rfl, hB4⟩
theorem Sm04_ok (s t : SlC) (a a' : SlA) (w : World) (hin : SlIn w s a) (hin' : SlIn w t a') (hl1 : s.ws.length ≤ 1000000000) (hl2 : s.ks.length ≤ 1000000000) (hl3 : s.vs.length ≤ 1000000000) (hl4 : s.cs.length ≤ 1000000000) :
    Calls Tryz.prog 37 #[slV s a, slV t a'] w (AnsB w (.bool (sameB s t))) := by
  have HW := fun (W : World) (hb : Below w.heap.size w W) => ans_drewN (SameWords_ok a.wa a'.wa a.wc a'.wc s.ws t.ws W (hin.w.below hb) (hin'.w.below hb) hl1)
  have HK := fun (W : World) (hb : Below w.heap.size w W) => ans_drewN (SameKeys_ok a.ka a'.ka a.kc a'.kc s.ks t.ks W (hin.k.below hb) (hin'.k.below hb) hl2)
  have HV := fun (W : World) (hb : Below w.heap.size w W) => ans_drewN (SameKeys_ok a.va a'.va a.vc a'.vc s.vs t.vs W (hin.v.below hb) (hin'.v.below hb) hl3)
  have HN := fun (W : World) (hb : Below w.heap.size w W) => ans_drewN (SameNums_ok a.ca a'.ca a.cc a'.cc s.cs t.cs W (hin.n.below hb) (hin'.n.below hb) hl4)
  unfold sameB
  by_cases h1 : s.seg = t.seg
  · have g1 : (s.seg == t.seg) = true := by simpa using h1
    rw [decide_eq_true h1, Bool.true_and]
    by_cases h2 : s.laid = t.laid
    · have g2 : (s.laid == t.laid) = true := by simpa using h2
      rw [decide_eq_true h2, Bool.true_and]
      cases h3 : decide (s.ws = t.ws) with
      | false => rw [h3] at HW; exact Sm04_p2 s.seg t.seg s.laid t.laid a.wa a.ka a.va a.ca a'.wa a'.ka a'.va a'.ca a.wc a.kc a.vc a.cc a'.wc a'.kc a'.vc a'.cc s.ws.length s.ks.length s.vs.length s.cs.length t.ws.length t.ks.length t.vs.length t.cs.length w g1 g2 (Lib.hid HW)
      | true =>
        rw [h3] at HW
        cases h4 : decide (s.ks = t.ks) with
        | false => rw [h4] at HK; exact Sm04_p3 s.seg t.seg s.laid t.laid a.wa a.ka a.va a.ca a'.wa a'.ka a'.va a'.ca a.wc a.kc a.vc a.cc a'.wc a'.kc a'.vc a'.cc s.ws.length s.ks.length s.vs.length s.cs.length t.ws.length t.ks.length t.vs.length t.cs.length w g1 g2 (Lib.hid HW) (Lib.hid HK)
        | true =>
          rw [h4] at HK
          cases h5 : decide (s.vs = t.vs) with
          | false => rw [h5] at HV; exact Sm04_p4 s.seg t.seg s.laid t.laid a.wa a.ka a.va a.ca a'.wa a'.ka a'.va a'.ca a.wc a.kc a.vc a.cc a'.wc a'.kc a'.vc a'.cc s.ws.length s.ks.length s.vs.length s.cs.length t.ws.length t.ks.length t.vs.length t.cs.length w g1 g2 (Lib.hid HW) (Lib.hid HK) (Lib.hid HV)
          | true =>
            rw [h5] at HV
            cases h6 : decide (s.cs = t.cs) with
            | false => rw [h6] at HN; exact Sm04_p5 s.seg t.seg s.laid t.laid a.wa a.ka a.va a.ca a'.wa a'.ka a'.va a'.ca a.wc a.kc a.vc a.cc a'.wc a'.kc a'.vc a'.cc s.ws.length s.ks.length s.vs.length s.cs.length t.ws.length t.ks.length t.vs.length t.cs.length w g1 g2 (Lib.hid HW) (Lib.hid HK) (Lib.hid HV) (Lib.hid HN)
            | true => rw [h6] at HN; exact Sm04_p6 s.seg t.seg s.laid t.laid a.wa a.ka a.va a.ca a'.wa a'.ka a'.va a'.ca a.wc a.kc a.vc a.cc a'.wc a'.kc a'.vc a'.cc s.ws.length s.ks.length s.vs.length s.cs.length t.ws.length t.ks.length t.vs.length t.cs.length w g1 g2 (Lib.hid HW) (Lib.hid HK) (Lib.hid HV) (Lib.hid HN)
    · have g2 : (s.laid == t.laid) = false := by simpa using h2
      rw [decide_eq_false h2, Bool.false_and]
      exact Sm04_p1 s.seg t.seg s.laid t.laid a.wa a.ka a.va a.ca a'.wa a'.ka a'.va a'.ca a.wc a.kc a.vc a.cc a'.wc a'.kc a'.vc a'.cc s.ws.length s.ks.length s.vs.length s.cs.length t.ws.length t.ks.length t.vs.length t.cs.length w g1 g2
  · have g1 : (s.seg == t.seg) = false := by simpa using h1
    rw [decide_eq_false h1, Bool.false_and]
    exact Sm04_p0 s.seg t.seg s.laid t.laid a.wa a.ka a.va a.ca a'.wa a'.ka a'.va a'.ca a.wc a.kc a.vc a.cc a'.wc a'.kc a'.vc a'.cc s.ws.length s.ks.length s.vs.length s.cs.length t.ws.length t.ks.length t.vs.length t.cs.length w g1
set_option maxRecDepth 100000 in
theorem SmSl_p0 (sg sg2 ld ld2 : Int) (wa ka va ca wa' ka' va' ca' : Option Addr) (wc kc vc cc wc' kc' vc' cc' lw lk lv lc lw' lk' lv' lc' : Nat) (w : World) (g1 : (sg == sg2) = false) :
    Calls Tryz.prog 36 #[.agg #[.int .i64 sg, .slice wa lw wc, .slice ka lk kc, .slice va lv vc, .slice ca lc cc, .int .u64 ld], .agg #[.int .i64 sg2, .slice wa' lw' wc', .slice ka' lk' kc', .slice va' lv' vc', .slice ca' lc' cc', .int .u64 ld2]] w (AnsB w (.bool false)) := by
  go_enter Tryz.func36, Tryz.ntmps36
  have hB0 : Below w.heap.size w ((w.alloc (.cells #[.int .i64 sg, .slice wa lw wc, .slice ka lk kc, .slice va lv vc, .slice ca lc cc, .int .u64 ld] 29)).alloc (.cells #[.int .i64 sg2, .slice wa' lw' wc', .slice ka' lk' kc', .slice va' lv' vc', .slice ca' lc' cc', .int .u64 ld2] 29)) := by (repeat (first | with_reducible (first | exact Below.refl _ _ | assumption | exact Hid.out (by assumption) | refine Below.alloc ?_ ?_ _ | refine Below.setCell ?_ ?_ _ | refine below_drewN ?_ _ | refine Below.drew ?_ | refine below_via (by assumption) ?_ ?_) | (first | (with_reducible assumption) | omega | (simp only [szW] <;> omega) | (simp <;> omega))))
  go_wp2
  go_ret
  exact ⟨rfl, hB0⟩
set_option maxRecDepth 100000 in
theorem SmSl_p1 (sg sg2 ld ld2 : Int) (wa ka va ca wa' ka' va' ca' : Option Addr) (wc kc vc cc wc' kc' vc' cc' lw lk lv lc lw' lk' lv' lc' : Nat) (w : World) (g1 : (sg == sg2) = true) (g2 : (ld == ld2) = false) :
    Calls Tryz.prog 36 #[.agg #[.int .i64 sg, .slice wa lw wc, .slice ka lk kc, .slice va lv vc, .slice ca lc cc, .int .u64 ld], .agg #[.int .i64 sg2, .slice wa' lw' wc', .slice ka' lk' kc', .slice va' lv' vc', .slice ca' lc' cc', .int .u64 ld2]] w (AnsB w (.bool false)) := by
  go_enter Tryz.func36, Tryz.ntmps36
  have hB0 : Below w.heap.size w ((w.alloc (.cells #[.int .i64 sg, .slice wa lw wc, .slice ka lk kc, .slice va lv vc, .slice ca lc cc, .int .u64 ld] 29)).alloc (.cells #[.int .i64 sg2, .slice wa' lw' wc', .slice ka' lk' kc', .slice va' lv' vc', .slice ca' lc' cc', .int .u64 ld2] 29)) := by (repeat (first | with_reducible (first | exact Below.refl _ _ | assumption | exact Hid.out (by assumption) | refine Below.alloc ?_ ?_ _ | refine Below.setCell ?_ ?_ _ | refine below_drewN ?_ _ | refine Below.drew ?_ | refine below_via (by assumption) ?_ ?_) | (first | (with_reducible assumption) | omega | (simp only [szW] <;> omega) | (simp <;> omega))))
  go_wp2
  go_ret
  exact ⟨rfl, hB0⟩
set_option maxRecDepth 100000 in
theorem SmSl_p2 (sg sg2 ld ld2 : Int) (wa ka va ca wa' ka' va' ca' : Option Addr) (wc kc vc cc wc' kc' vc' cc' lw lk lv lc lw' lk' lv' lc' : Nat) (w : World) (g1 : (sg == sg2) = true) (g2 : (ld == ld2) = true) (HW : Hid (∀ W, Below w.heap.size w W → Calls Tryz.prog 64 #[.slice wa lw wc, .slice wa' lw' wc'] W (AnsB W (.bool false)))) :
    Calls Tryz.prog 36 #[.agg #[.int .i64 sg, .slice wa lw wc, .slice ka lk kc, .slice va lv vc, .slice ca lc cc, .int .u64 ld], .agg #[.int .i64 sg2, .slice wa' lw' wc', .slice ka' lk' kc', .slice va' lv' vc', .slice ca' lc' cc', .int .u64 ld2]] w (AnsB w (.bool false)) := by
  go_enter Tryz.func36, Tryz.ntmps36
  go_wp2_with fail
  refine (HW.out _ (by (repeat (first | with_reducible (first | exact Below.refl _ _ | assumption | exact Hid.out (by assumption) | refine Below.alloc ?_ ?_ _ | refine Below.setCell ?_ ?_ _ | refine below_drewN ?_ _ | refine Below.drew ?_ | refine below_via (by assumption) ?_ ?_) | (first | (with_reducible assumption) | omega | (simp only [szW] <;> omega) | (simp <;> omega)))))).mono ?_
  rintro e w1 ⟨rfl, hb1⟩
  have hz_w1 := hb1.size
  try simp only [World.size_alloc, World.size_setCell] at hz_w1
  have hh := bc6 hb1 (au6 (al6 (b := w.heap.size) (by simp)))
  obtain ⟨c_t0, c_t1, c_t2, c_t3, c_t4, c_t5⟩ := hh
  have z_t := blt hb1 (auz (alz (b := w.heap.size) (by simp)))
  have hh := bc6 hb1 (al6 (b := w.heap.size + 1) (by simp))
  obtain ⟨c_o0, c_o1, c_o2, c_o3, c_o4, c_o5⟩ := hh
  have z_o := blt hb1 (alz (b := w.heap.size + 1) (by simp))
  have hB1 : Below w.heap.size w w1 := by (repeat (first | with_reducible (first | exact Below.refl _ _ | assumption | exact Hid.out (by assumption) | refine Below.alloc ?_ ?_ _ | refine Below.setCell ?_ ?_ _ | refine below_drewN ?_ _ | refine Below.drew ?_ | refine below_via (by assumption) ?_ ?_) | (first | (with_reducible assumption) | omega | (simp only [szW] <;> omega) | (simp <;> omega))))
  go_wp2
  go_ret
  exact ⟨rfl, hB1⟩
set_option maxRecDepth 100000 in
theorem SmSl_p3 (sg sg2 ld ld2 : Int) (wa ka va ca wa' ka' va' ca' : Option Addr) (wc kc vc cc wc' kc' vc' cc' lw lk lv lc lw' lk' lv' lc' : Nat) (w : World) (g1 : (sg == sg2) = true) (g2 : (ld == ld2) = true) (HW : Hid (∀ W, Below w.heap.size w W → Calls Tryz.prog 64 #[.slice wa lw wc, .slice wa' lw' wc'] W (AnsB W (.bool true)))) (HK : Hid (∀ W, Below w.heap.size w W → Calls Tryz.prog 65 #[.slice ka lk kc, .slice ka' lk' kc'] W (AnsB W (.bool false)))) :
    Calls Tryz.prog 36 #[.agg #[.int .i64 sg, .slice wa lw wc, .slice ka lk kc, .slice va lv vc, .slice ca lc cc, .int .u64 ld], .agg #[.int .i64 sg2, .slice wa' lw' wc', .slice ka' lk' kc', .slice va' lv' vc', .slice ca' lc' cc', .int .u64 ld2]] w (AnsB w (.bool false)) := by
  go_enter Tryz.func36, Tryz.ntmps36
  go_wp2_with fail
  refine (HW.out _ (by (repeat (first | with_reducible (first | exact Below.refl _ _ | assumption | exact Hid.out (by assumption) | refine Below.alloc ?_ ?_ _ | refine Below.setCell ?_ ?_ _ | refine below_drewN ?_ _ | refine Below.drew ?_ | refine below_via (by assumption) ?_ ?_) | (first | (with_reducible assumption) | omega | (simp only [szW] <;> omega) | (simp <;> omega)))))).mono ?_
  rintro e w1 ⟨rfl, hb1⟩
  have hz_w1 := hb1.size
  try simp only [World.size_alloc, World.size_setCell] at hz_w1
  have hh := bc6 hb1 (au6 (al6 (b := w.heap.size) (by simp)))
  obtain ⟨c_t0, c_t1, c_t2, c_t3, c_t4, c_t5⟩ := hh
  have z_t := blt hb1 (auz (alz (b := w.heap.size) (by simp)))
  have hh := bc6 hb1 (al6 (b := w.heap.size + 1) (by simp))
  obtain ⟨c_o0, c_o1, c_o2, c_o3, c_o4, c_o5⟩ := hh
  have z_o := blt hb1 (alz (b := w.heap.size + 1) (by simp))
  have hB1 : Below w.heap.size w w1 := by (repeat (first | with_reducible (first | exact Below.refl _ _ | assumption | exact Hid.out (by assumption) | refine Below.alloc ?_ ?_ _ | refine Below.setCell ?_ ?_ _ | refine below_drewN ?_ _ | refine Below.drew ?_ | refine below_via (by assumption) ?_ ?_) | (first | (with_reducible assumption) | omega | (simp only [szW] <;> omega) | (simp <;> omega))))
  go_wp2_with fail
  refine (HK.out _ hB1).mono ?_
  rintro e w2 ⟨rfl, hb2⟩
  have hz_w2 := hb2.size
  try simp only [World.size_alloc, World.size_setCell] at hz_w2
  have hh := bc6 hb2 ⟨c_t0, c_t1, c_t2, c_t3, c_t4, c_t5⟩
  clear c_t0 c_t1 c_t2 c_t3 c_t4 c_t5
  obtain ⟨c_t0, c_t1, c_t2, c_t3, c_t4, c_t5⟩ := hh
  replace z_t := blt hb2 z_t
  have hh := bc6 hb2 ⟨c_o0, c_o1, c_o2, c_o3, c_o4, c_o5⟩
  clear c_o0 c_o1 c_o2 c_o3 c_o4 c_o5
  obtain ⟨c_o0, c_o1, c_o2, c_o3, c_o4, c_o5⟩ := hh
  replace z_o := blt hb2 z_o
  have hB2 : Below w.heap.size w w2 := by (repeat (first | with_reducible (first | exact Below.refl _ _ | assumption | exact Hid.out (by assumption) | refine Below.alloc ?_ ?_ _ | refine Below.setCell ?_ ?_ _ | refine below_drewN ?_ _ | refine Below.drew ?_ | refine below_via (by assumption) ?_ ?_) | (first | (with_reducible assumption) | omega | (simp only [szW] <;> omega) | (simp <;> omega))))
  go_wp2
  go_ret
  exact ⟨rfl, hB2⟩
set_option maxRecDepth 100000 in
theorem SmSl_p4 (sg sg2 ld ld2 : Int) (wa ka va ca wa' ka' va' ca' : Option Addr) (wc kc vc cc wc' kc' vc' cc' lw lk lv lc lw' lk' lv' lc' : Nat) (w : World) (g1 : (sg == sg2) = true) (g2 : (ld == ld2) = true) (HW : Hid (∀ W, Below w.heap.size w W → Calls Tryz.prog 64 #[.slice wa lw wc, .slice wa' lw' wc'] W (AnsB W (.bool true)))) (HK : Hid (∀ W, Below w.heap.size w W → Calls Tryz.prog 65 #[.slice ka lk kc, .slice ka' lk' kc'] W (AnsB W (.bool true)))) (HV : Hid (∀ W, Below w.heap.size w W → Calls Tryz.prog 65 #[.slice va lv vc, .slice va' lv' vc'] W (AnsB W (.bool false)))) :
    Calls Tryz.prog 36 #[.agg #[.int .i64 sg, .slice wa lw wc, .slice ka lk kc, .slice va lv vc, .slice ca lc cc, .int .u64 ld], .agg #[.int .i64 sg2, .slice wa' lw' wc', .slice ka' lk' kc', .slice va' lv' vc', .slice ca' lc' cc', .int .u64 ld2]] w (AnsB w (.bool false)) := by
  go_enter Tryz.func36, Tryz.ntmps36
  go_wp2_with fail
  refine (HW.out _ (by (repeat (first | with_reducible (first | exact Below.refl _ _ | assumption | exact Hid.out (by assumption) | refine Below.alloc ?_ ?_ _ | refine Below.setCell ?_ ?_ _ | refine below_drewN ?_ _ | refine Below.drew ?_ | refine below_via (by assumption) ?_ ?_) | (first | (with_reducible assumption) | omega | (simp only [szW] <;> omega) | (simp <;> omega)))))).mono ?_
  rintro e w1 ⟨rfl, hb1⟩
  have hz_w1 := hb1.size
  try simp only [World.size_alloc, World.size_setCell] at hz_w1
  have hh := bc6 hb1 (au6 (al6 (b := w.heap.size) (by simp)))
  obtain ⟨c_t0, c_t1, c_t2, c_t3, c_t4, c_t5⟩ := hh
  have z_t := blt hb1 (auz (alz (b := w.heap.size) (by simp)))
  have hh := bc6 hb1 (al6 (b := w.heap.size + 1) (by simp))
  obtain ⟨c_o0, c_o1, c_o2, c_o3, c_o4, c_o5⟩ := hh
  have z_o := blt hb1 (alz (b := w.heap.size + 1) (by simp))
  have hB1 : Below w.heap.size w w1 := by (repeat (first | with_reducible (first | exact Below.refl _ _ | assumption | exact Hid.out (by assumption) | refine Below.alloc ?_ ?_ _ | refine Below.setCell ?_ ?_ _ | refine below_drewN ?_ _ | refine Below.drew ?_ | refine below_via (by assumption) ?_ ?_) | (first | (with_reducible assumption) | omega | (simp only [szW] <;> omega) | (simp <;> omega))))
  go_wp2_with fail
  refine (HK.out _ hB1).mono ?_
  rintro e w2 ⟨rfl, hb2⟩
  have hz_w2 := hb2.size
  try simp only [World.size_alloc, World.size_setCell] at hz_w2
  have hh := bc6 hb2 ⟨c_t0, c_t1, c_t2, c_t3, c_t4, c_t5⟩
  clear c_t0 c_t1 c_t2 c_t3 c_t4 c_t5
  obtain ⟨c_t0, c_t1, c_t2, c_t3, c_t4, c_t5⟩ := hh
  replace z_t := blt hb2 z_t
  have hh := bc6 hb2 ⟨c_o0, c_o1, c_o2, c_o3, c_o4, c_o5⟩
  clear c_o0 c_o1 c_o2 c_o3 c_o4 c_o5
  obtain ⟨c_o0, c_o1, c_o2, c_o3, c_o4, c_o5⟩ := hh
  replace z_o := blt hb2 z_o
  have hB2 : Below w.heap.size w w2 := by (repeat (first | with_reducible (first | exact Below.refl _ _ | assumption | exact Hid.out (by assumption) | refine Below.alloc ?_ ?_ _ | refine Below.setCell ?_ ?_ _ | refine below_drewN ?_ _ | refine Below.drew ?_ | refine below_via (by assumption) ?_ ?_) | (first | (with_reducible assumption) | omega | (simp only [szW] <;> omega) | (simp <;> omega))))
  go_wp2_with fail
  refine (HV.out _ hB2).mono ?_
  rintro e w3 ⟨rfl, hb3⟩
  have hz_w3 := hb3.size
  try simp only [World.size_alloc, World.size_setCell] at hz_w3
  have hh := bc6 hb3 ⟨c_t0, c_t1, c_t2, c_t3, c_t4, c_t5⟩
  clear c_t0 c_t1 c_t2 c_t3 c_t4 c_t5
  obtain ⟨c_t0, c_t1, c_t2, c_t3, c_t4, c_t5⟩ := hh
  replace z_t := blt hb3 z_t
  have hh := bc6 hb3 ⟨c_o0, c_o1, c_o2, c_o3, c_o4, c_o5⟩
  clear c_o0 c_o1 c_o2 c_o3 c_o4 c_o5
  obtain ⟨c_o0, c_o1, c_o2, c_o3, c_o4, c_o5⟩ := hh
  replace z_o := blt hb3 z_o
  have hB3 : Below w.heap.size w w3 := by (repeat (first | with_reducible (first | exact Below.refl _ _ | assumption | exact Hid.out (by assumption) | refine Below.alloc ?_ ?_ _ | refine Below.setCell ?_ ?_ _ | refine below_drewN ?_ _ | refine Below.drew ?_ | refine below_via (by assumption) ?_ ?_) | (first | (with_reducible assumption) | omega | (simp only [szW] <;> omega) | (simp <;> omega))))
  go_wp2
  go_ret
  exact ⟨rfl, hB3⟩
set_option maxRecDepth 100000 in
theorem SmSl_p5 (sg sg2 ld ld2 : Int) (wa ka va ca wa' ka' va' ca' : Option Addr) (wc kc vc cc wc' kc' vc' cc' lw lk lv lc lw' lk' lv' lc' : Nat) (w : World) (g1 : (sg == sg2) = true) (g2 : (ld == ld2) = true) (HW : Hid (∀ W, Below w.heap.size w W → Calls Tryz.prog 64 #[.slice wa lw wc, .slice wa' lw' wc'] W (AnsB W (.bool true)))) (HK : Hid (∀ W, Below w.heap.size w W → Calls Tryz.prog 65 #[.slice ka lk kc, .slice ka' lk' kc'] W (AnsB W (.bool true)))) (HV : Hid (∀ W, Below w.heap.size w W → Calls Tryz.prog 65 #[.slice va lv vc, .slice va' lv' vc'] W (AnsB W (.bool true)))) (HN : Hid (∀ W, Below w.heap.size w W → Calls Tryz.prog 66 #[.slice ca lc cc, .slice ca' lc' cc'] W (AnsB W (.bool false)))) :
    Calls Tryz.prog 36 #[.agg #[.int .i64 sg, .slice wa lw wc, .slice ka lk kc, .slice va lv vc, .slice ca lc cc, .int .u64 ld], .agg #[.int .i64 sg2, .slice wa' lw' wc', .slice ka' lk' kc', .slice va' lv' vc', .slice ca' lc' cc', .int .u64 ld2]] w (AnsB w (.bool false)) := by
  go_enter Tryz.func36, Tryz.ntmps36
  go_wp2_with fail
  refine (HW.out _ (by (repeat (first | with_reducible (first | exact Below.refl _ _ | assumption | exact Hid.out (by assumption) | refine Below.alloc ?_ ?_ _ | refine Below.setCell ?_ ?_ _ | refine below_drewN ?_ _ | refine Below.drew ?_ | refine below_via (by assumption) ?_ ?_) | (first | (with_reducible assumption) | omega | (simp only [szW] <;> omega) | (simp <;> omega)))))).mono ?_
  rintro e w1 ⟨rfl, hb1⟩
  have hz_w1 := hb1.size
  try simp only [World.size_alloc, World.size_setCell] at hz_w1
  have hh := bc6 hb1 (au6 (al6 (b := w.heap.size) (by simp)))
  obtain ⟨c_t0, c_t1, c_t2, c_t3, c_t4, c_t5⟩ := hh
  have z_t := blt hb1 (auz (alz (b := w.heap.size) (by simp)))
  have hh := bc6 hb1 (al6 (b := w.heap.size + 1) (by simp))
  obtain ⟨c_o0, c_o1, c_o2, c_o3, c_o4, c_o5⟩ := hh
  have z_o := blt hb1 (alz (b := w.heap.size + 1) (by simp))
  have hB1 : Below w.heap.size w w1 := by (repeat (first | with_reducible (first | exact Below.refl _ _ | assumption | exact Hid.out (by assumption) | refine Below.alloc ?_ ?_ _ | refine Below.setCell ?_ ?_ _ | refine below_drewN ?_ _ | refine Below.drew ?_ | refine below_via (by assumption) ?_ ?_) | (first | (with_reducible assumption) | omega | (simp only [szW] <;> omega) | (simp <;> omega))))
  go_wp2_with fail
  refine (HK.out _ hB1).mono ?_
  rintro e w2 ⟨rfl, hb2⟩
  have hz_w2 := hb2.size
  try simp only [World.size_alloc, World.size_setCell] at hz_w2
  have hh := bc6 hb2 ⟨c_t0, c_t1, c_t2, c_t3, c_t4, c_t5⟩
  clear c_t0 c_t1 c_t2 c_t3 c_t4 c_t5
  obtain ⟨c_t0, c_t1, c_t2, c_t3, c_t4, c_t5⟩ := hh
  replace z_t := blt hb2 z_t
  have hh := bc6 hb2 ⟨c_o0, c_o1, c_o2, c_o3, c_o4, c_o5⟩
  clear c_o0 c_o1 c_o2 c_o3 c_o4 c_o5
  obtain ⟨c_o0, c_o1, c_o2, c_o3, c_o4, c_o5⟩ := hh
  replace z_o := blt hb2 z_o
  have hB2 : Below w.heap.size w w2 := by (repeat (first | with_reducible (first | exact Below.refl _ _ | assumption | exact Hid.out (by assumption) | refine Below.alloc ?_ ?_ _ | refine Below.setCell ?_ ?_ _ | refine below_drewN ?_ _ | refine Below.drew ?_ | refine below_via (by assumption) ?_ ?_) | (first | (with_reducible assumption) | omega | (simp only [szW] <;> omega) | (simp <;> omega))))
  go_wp2_with fail
  refine (HV.out _ hB2).mono ?_
  rintro e w3 ⟨rfl, hb3⟩
  have hz_w3 := hb3.size
  try simp only [World.size_alloc, World.size_setCell] at hz_w3
  have hh := bc6 hb3 ⟨c_t0, c_t1, c_t2, c_t3, c_t4, c_t5⟩
  clear c_t0 c_t1 c_t2 c_t3 c_t4 c_t5
  obtain ⟨c_t0, c_t1, c_t2, c_t3, c_t4, c_t5⟩ := hh
  replace z_t := blt hb3 z_t
  have hh := bc6 hb3 ⟨c_o0, c_o1, c_o2, c_o3, c_o4, c_o5⟩
  clear c_o0 c_o1 c_o2 c_o3 c_o4 c_o5
  obtain ⟨c_o0, c_o1, c_o2, c_o3, c_o4, c_o5⟩ := hh
  replace z_o := blt hb3 z_o
  have hB3 : Below w.heap.size w w3 := by (repeat (first | with_reducible (first | exact Below.refl _ _ | assumption | exact Hid.out (by assumption) | refine Below.alloc ?_ ?_ _ | refine Below.setCell ?_ ?_ _ | refine below_drewN ?_ _ | refine Below.drew ?_ | refine below_via (by assumption) ?_ ?_) | (first | (with_reducible assumption) | omega | (simp only [szW] <;> omega) | (simp <;> omega))))
  go_wp2_with fail
  refine (HN.out _ hB3).mono ?_
  rintro e w4 ⟨rfl, hb4⟩
  have hz_w4 := hb4.size
  try simp only [World.size_alloc, World.size_setCell] at hz_w4
  have hh := bc6 hb4 ⟨c_t0, c_t1, c_t2, c_t3, c_t4, c_t5⟩
  clear c_t0 c_t1 c_t2 c_t3 c_t4 c_t5
  obtain ⟨c_t0, c_t1, c_t2, c_t3, c_t4, c_t5⟩ := hh
  replace z_t := blt hb4 z_t
  have hh := bc6 hb4 ⟨c_o0, c_o1, c_o2, c_o3, c_o4, c_o5⟩
  clear c_o0 c_o1 c_o2 c_o3 c_o4 c_o5
  obtain ⟨c_o0, c_o1, c_o2, c_o3, c_o4, c_o5⟩ := hh
  replace z_o := blt hb4 z_o
  have hB4 : Below w.heap.size w w4 := by (repeat (first | with_reducible (first | exact Below.refl _ _ | assumption | exact Hid.out (by assumption) | refine Below.alloc ?_ ?_ _ | refine Below.setCell ?_ ?_ _ | refine below_drewN ?_ _ | refine Below.drew ?_ | refine below_via (by assumption) ?_ ?_) | (first | (with_reducible assumption) | omega | (simp only [szW] <;> omega) | (simp <;> omega))))
  go_wp2
  go_ret
  exact ⟨rfl, hB4⟩
set_option maxRecDepth 100000 in
theorem SmSl_p6 (sg sg2 ld ld2 : Int) (wa ka va ca wa' ka' va' ca' : Option Addr) (wc kc vc cc wc' kc' vc' cc' lw lk lv lc lw' lk' lv' lc' : Nat) (w : World) (g1 : (sg == sg2) = true) (g2 : (ld == ld2) = true) (HW : Hid (∀ W, Below w.heap.size w W → Calls Tryz.prog 64 #[.slice wa lw wc, .slice wa' lw' wc'] W (AnsB W (.bool true)))) (HK : Hid (∀ W, Below w.heap.size w W → Calls Tryz.prog 65 #[.slice ka lk kc, .slice ka' lk' kc'] W (AnsB W (.bool true)))) (HV : Hid (∀ W, Below w.heap.size w W → Calls Tryz.prog 65 #[.slice va lv vc, .slice va' lv' vc'] W (AnsB W (.bool true)))) (HN : Hid (∀ W, Below w.heap.size w W → Calls Tryz.prog 66 #[.slice ca lc cc, .slice ca' lc' cc'] W (AnsB W (.bool true)))) :
    Calls Tryz.prog 36 #[.agg #[.int .i64 sg, .slice wa lw wc, .slice ka lk kc, .slice va lv vc, .slice ca lc cc, .int .u64 ld], .agg #[.int .i64 sg2, .slice wa' lw' wc', .slice ka' lk' kc', .slice va' lv' vc', .slice ca' lc' cc', .int .u64 ld2]] w (AnsB w (.bool true)) := by
  go_enter Tryz.func36, Tryz.ntmps36
  go_wp2_with fail
  refine (HW.out _ (by (repeat (first | with_reducible (first | exact Below.refl _ _ | assumption | exact Hid.out (by assumption) | refine Below.alloc ?_ ?_ _ | refine Below.setCell ?_ ?_ _ | refine below_drewN ?_ _ | refine Below.drew ?_ | refine below_via (by assumption) ?_ ?_) | (first | (with_reducible assumption) | omega | (simp only [szW] <;> omega) | (simp <;> omega)))))).mono ?_
  rintro e w1 ⟨rfl, hb1⟩
  have hz_w1 := hb1.size
  try simp only [World.size_alloc, World.size_setCell] at hz_w1
  have hh := bc6 hb1 (au6 (al6 (b := w.heap.size) (by simp)))
  obtain ⟨c_t0, c_t1, c_t2, c_t3, c_t4, c_t5⟩ := hh
  have z_t := blt hb1 (auz (alz (b := w.heap.size) (by simp)))
  have hh := bc6 hb1 (al6 (b := w.heap.size + 1) (by simp))
  obtain ⟨c_o0, c_o1, c_o2, c_o3, c_o4, c_o5⟩ := hh
  have z_o := blt hb1 (alz (b := w.heap.size + 1) (by simp))
  have hB1 : Below w.heap.size w w1 := by (repeat (first | with_reducible (first | exact Below.refl _ _ | assumption | exact Hid.out (by assumption) | refine Below.alloc ?_ ?_ _ | refine Below.setCell ?_ ?_ _ | refine below_drewN ?_ _ | refine Below.drew ?_ | refine below_via (by assumption) ?_ ?_) | (first | (with_reducible assumption) | omega | (simp only [szW] <;> omega) | (simp <;> omega))))
  go_wp2_with fail
  refine (HK.out _ hB1).mono ?_
  rintro e w2 ⟨rfl, hb2⟩
  have hz_w2 := hb2.size
  try simp only [World.size_alloc, World.size_setCell] at hz_w2
  have hh := bc6 hb2 ⟨c_t0, c_t1, c_t2, c_t3, c_t4, c_t5⟩
  clear c_t0 c_t1 c_t2 c_t3 c_t4 c_t5
  obtain ⟨c_t0, c_t1, c_t2, c_t3, c_t4, c_t5⟩ := hh
  replace z_t := blt hb2 z_t
  have hh := bc6 hb2 ⟨c_o0, c_o1, c_o2, c_o3, c_o4, c_o5⟩
  clear c_o0 c_o1 c_o2 c_o3 c_o4 c_o5
  obtain ⟨c_o0, c_o1, c_o2, c_o3, c_o4, c_o5⟩ := hh
  replace z_o := blt hb2 z_o
  have hB2 : Below w.heap.size w w2 := by (repeat (first | with_reducible (first | exact Below.refl _ _ | assumption | exact Hid.out (by assumption) | refine Below.alloc ?_ ?_ _ | refine Below.setCell ?_ ?_ _ | refine below_drewN ?_ _ | refine Below.drew ?_ | refine below_via (by assumption) ?_ ?_) | (first | (with_reducible assumption) | omega | (simp only [szW] <;> omega) | (simp <;> omega))))
  go_wp2_with fail
  refine (HV.out _ hB2).mono ?_
  rintro e w3 ⟨rfl, hb3⟩
  have hz_w3 := hb3.size
  try simp only [World.size_alloc, World.size_setCell] at hz_w3
  have hh := bc6 hb3 ⟨c_t0, c_t1, c_t2, c_t3, c_t4, c_t5⟩
  clear c_t0 c_t1 c_t2 c_t3 c_t4 c_t5
  obtain ⟨c_t0, c_t1, c_t2, c_t3, c_t4, c_t5⟩ := hh
  replace z_t := blt hb3 z_t
  have hh := bc6 hb3 ⟨c_o0, c_o1, c_o2, c_o3, c_o4, c_o5⟩
  clear c_o0 c_o1 c_o2 c_o3 c_o4 c_o5
  obtain ⟨c_o0, c_o1, c_o2, c_o3, c_o4, c_o5⟩ := hh
  replace z_o := blt hb3 z_o
  have hB3 : Below w.heap.size w w3 := by (repeat (first | with_reducible (first | exact Below.refl _ _ | assumption | exact Hid.out (by assumption) | refine Below.alloc ?_ ?_ _ | refine Below.setCell ?_ ?_ _ | refine below_drewN ?_ _ | refine Below.drew ?_ | refine below_via (by assumption) ?_ ?_) | (first | (with_reducible assumption) | omega | (simp only [szW] <;> omega) | (simp <;> omega))))
  go_wp2_with fail
  refine (HN.out _ hB3).mono ?_
  rintro e w4 ⟨rfl, hb4⟩
  have hz_w4 := hb4.size
  try simp only [World.size_alloc, World.size_setCell] at hz_w4
  have hh := bc6 hb4 ⟨c_t0, c_t1, c_t2, c_t3, c_t4, c_t5⟩
  clear c_t0 c_t1 c_t2 c_t3 c_t4 c_t5
  obtain ⟨c_t0, c_t1, c_t2, c_t3, c_t4, c_t5⟩ := hh
  replace z_t := blt hb4 z_t
  have hh := bc6 hb4 ⟨c_o0, c_o1, c_o2, c_o3, c_o4, c_o5⟩
  clear c_o0 c_o1 c_o2 c_o3 c_o4 c_o5
  obtain ⟨c_o0, c_o1, c_o2, c_o3, c_o4, c_o5⟩ := hh
  replace z_o := blt hb4 z_o
  have hB4 : Below w.heap.size w w4 := by (repeat (first | with_reducible (first | exact Below.refl _ _ | assumption | exact Hid.out (by assumption) | refine Below.alloc ?_ ?_ _ | refine Below.setCell ?_ ?_ _ | refine below_drewN ?_ _ | refine Below.drew ?_ | refine below_via (by assumption) ?_ ?_) | (first | (with_reducible assumption) | omega | (simp only [szW] <;> omega) | (simp <;> omega))))
  go_wp2
  go_ret
  exact ⟨rfl, hB4⟩
theorem SmSl_ok (s t : SlC) (a a' : SlA) (w : World) (hin : SlIn w s a) (hin' : SlIn w t a') (hl1 : s.ws.length ≤ 1000000000) (hl2 : s.ks.length ≤ 1000000000) (hl3 : s.vs.length ≤ 1000000000) (hl4 : s.cs.length ≤ 1000000000) :
    Calls Tryz.prog 36 #[slV s a, slV t a'] w (AnsB w (.bool (sameB s t))) := by
  have HW := fun (W : World) (hb : Below w.heap.size w W) => occSame_ok a.wa a'.wa a.wc a'.wc s.ws t.ws W (hin.w.below hb) (hin'.w.below hb) hl1
  have HK := fun (W : World) (hb : Below w.heap.size w W) => ans_drewN (Equal_int64 a.ka a'.ka a.kc a'.kc s.ks t.ks W (hin.k.below hb) (hin'.k.below hb) hl2)
  have HV := fun (W : World) (hb : Below w.heap.size w W) => ans_drewN (Equal_int64 a.va a'.va a.vc a'.vc s.vs t.vs W (hin.v.below hb) (hin'.v.below hb) hl3)
  have HN := fun (W : World) (hb : Below w.heap.size w W) => ans_drewN (Equal_int a.ca a'.ca a.cc a'.cc s.cs t.cs W (hin.n.below hb) (hin'.n.below hb) hl4)
  unfold sameB
  by_cases h1 : s.seg = t.seg
  · have g1 : (s.seg == t.seg) = true := by simpa using h1
    rw [decide_eq_true h1, Bool.true_and]
    by_cases h2 : s.laid = t.laid
    · have g2 : (s.laid == t.laid) = true := by simpa using h2
      rw [decide_eq_true h2, Bool.true_and]
      cases h3 : decide (s.ws = t.ws) with
      | false => rw [h3] at HW; exact SmSl_p2 s.seg t.seg s.laid t.laid a.wa a.ka a.va a.ca a'.wa a'.ka a'.va a'.ca a.wc a.kc a.vc a.cc a'.wc a'.kc a'.vc a'.cc s.ws.length s.ks.length s.vs.length s.cs.length t.ws.length t.ks.length t.vs.length t.cs.length w g1 g2 (Lib.hid HW)
      | true =>
        rw [h3] at HW
        cases h4 : decide (s.ks = t.ks) with
        | false => rw [h4] at HK; exact SmSl_p3 s.seg t.seg s.laid t.laid a.wa a.ka a.va a.ca a'.wa a'.ka a'.va a'.ca a.wc a.kc a.vc a.cc a'.wc a'.kc a'.vc a'.cc s.ws.length s.ks.length s.vs.length s.cs.length t.ws.length t.ks.length t.vs.length t.cs.length w g1 g2 (Lib.hid HW) (Lib.hid HK)
        | true =>
          rw [h4] at HK
          cases h5 : decide (s.vs = t.vs) with
          | false => rw [h5] at HV; exact SmSl_p4 s.seg t.seg s.laid t.laid a.wa a.ka a.va a.ca a'.wa a'.ka a'.va a'.ca a.wc a.kc a.vc a.cc a'.wc a'.kc a'.vc a'.cc s.ws.length s.ks.length s.vs.length s.cs.length t.ws.length t.ks.length t.vs.length t.cs.length w g1 g2 (Lib.hid HW) (Lib.hid HK) (Lib.hid HV)
          | true =>
            rw [h5] at HV
            cases h6 : decide (s.cs = t.cs) with
            | false => rw [h6] at HN; exact SmSl_p5 s.seg t.seg s.laid t.laid a.wa a.ka a.va a.ca a'.wa a'.ka a'.va a'.ca a.wc a.kc a.vc a.cc a'.wc a'.kc a'.vc a'.cc s.ws.length s.ks.length s.vs.length s.cs.length t.ws.length t.ks.length t.vs.length t.cs.length w g1 g2 (Lib.hid HW) (Lib.hid HK) (Lib.hid HV) (Lib.hid HN)
            | true => rw [h6] at HN; exact SmSl_p6 s.seg t.seg s.laid t.laid a.wa a.ka a.va a.ca a'.wa a'.ka a'.va a'.ca a.wc a.kc a.vc a.cc a'.wc a'.kc a'.vc a'.cc s.ws.length s.ks.length s.vs.length s.cs.length t.ws.length t.ks.length t.vs.length t.cs.length w g1 g2 (Lib.hid HW) (Lib.hid HK) (Lib.hid HV) (Lib.hid HN)
    · have g2 : (s.laid == t.laid) = false := by simpa using h2
      rw [decide_eq_false h2, Bool.false_and]
      exact SmSl_p1 s.seg t.seg s.laid t.laid a.wa a.ka a.va a.ca a'.wa a'.ka a'.va a'.ca a.wc a.kc a.vc a.cc a'.wc a'.kc a'.vc a'.cc s.ws.length s.ks.length s.vs.length s.cs.length t.ws.length t.ks.length t.vs.length t.cs.length w g1 g2
  · have g1 : (s.seg == t.seg) = false := by simpa using h1
    rw [decide_eq_false h1, Bool.false_and]
    exact SmSl_p0 s.seg t.seg s.laid t.laid a.wa a.ka a.va a.ca a'.wa a'.ka a'.va a'.ca a.wc a.kc a.vc a.cc a'.wc a'.kc a'.vc a'.cc s.ws.length s.ks.length s.vs.length s.cs.length t.ws.length t.ks.length t.vs.length t.cs.length w g1
end

section
open Go.RowKit

/-- have two configs the same -/
def cfB (c d : Cfg) : Bool := decide (c.tag = d.tag) && (decide (c.most = d.most) && (decide (c.seg = d.seg) && (decide (c.least = d.least) && (decide (c.den = d.den) && (decide (c.ll = d.ll) && (decide (c.rl = d.rl) && (decide (c.rh = d.rh) && (decide (c.lh = d.lh)))))))))
theorem cfB_refl (c : Cfg) : cfB c c = true := by simp [cfB]
/-- have two maps the same -/
def pmB (c : Cfg) (s : SlC) (d : Cfg) (t : SlC) : Bool := cfB c d && sameB s t
theorem pmB_refl (c : Cfg) (s : SlC) : pmB c s c s = true := by simp [pmB, cfB_refl, sameB_refl]
set_option maxRecDepth 100000 in
theorem Sm11_p0 (c d : Cfg) (s t : SlC) (wa ka va ca : Option Addr) (wc kc vc cc : Nat) (wa' ka' va' ca' : Option Addr) (wc' kc' vc' cc' : Nat) (w : World) (g0 : (c.tag == d.tag) = false) :
    Calls Tryz.prog 17 #[.agg #[.int .u8 c.tag, .int .i64 c.most, .int .i64 c.seg, .int .i64 c.least, .int .i64 c.den, .int .i64 c.ll, .int .i64 c.rl, .int .i64 c.rh, .int .i64 c.lh, .int .i64 s.seg, .slice wa s.ws.length wc, .slice ka s.ks.length kc, .slice va s.vs.length vc, .slice ca s.cs.length cc, .int .u64 s.laid], .agg #[.int .u8 d.tag, .int .i64 d.most, .int .i64 d.seg, .int .i64 d.least, .int .i64 d.den, .int .i64 d.ll, .int .i64 d.rl, .int .i64 d.rh, .int .i64 d.lh, .int .i64 t.seg, .slice wa' t.ws.length wc', .slice ka' t.ks.length kc', .slice va' t.vs.length vc', .slice ca' t.cs.length cc', .int .u64 t.laid]] w (AnsB w (.bool false)) := by
  go_enter Tryz.func17, Tryz.ntmps17
  have hB0 : Below w.heap.size w ((w.alloc (.cells #[.int .u8 c.tag, .int .i64 c.most, .int .i64 c.seg, .int .i64 c.least, .int .i64 c.den, .int .i64 c.ll, .int .i64 c.rl, .int .i64 c.rh, .int .i64 c.lh, .int .i64 s.seg, .slice wa s.ws.length wc, .slice ka s.ks.length kc, .slice va s.vs.length vc, .slice ca s.cs.length cc, .int .u64 s.laid] 31)).alloc (.cells #[.int .u8 d.tag, .int .i64 d.most, .int .i64 d.seg, .int .i64 d.least, .int .i64 d.den, .int .i64 d.ll, .int .i64 d.rl, .int .i64 d.rh, .int .i64 d.lh, .int .i64 t.seg, .slice wa' t.ws.length wc', .slice ka' t.ks.length kc', .slice va' t.vs.length vc', .slice ca' t.cs.length cc', .int .u64 t.laid] 31)) := by (repeat (first | with_reducible (first | exact Below.refl _ _ | assumption | exact Hid.out (by assumption) | refine Below.alloc ?_ ?_ _ | refine Below.setCell ?_ ?_ _ | refine below_drewN ?_ _ | refine Below.drew ?_ | refine below_via (by assumption) ?_ ?_) | (first | (with_reducible assumption) | omega | (simp only [szW] <;> omega) | (simp <;> omega))))
  go_wp2
  go_ret
  exact ⟨rfl, hB0⟩
set_option maxRecDepth 100000 in
theorem Sm11_p1 (c d : Cfg) (s t : SlC) (wa ka va ca : Option Addr) (wc kc vc cc : Nat) (wa' ka' va' ca' : Option Addr) (wc' kc' vc' cc' : Nat) (w : World) (g0 : (c.tag == d.tag) = true) (g1 : (c.most == d.most) = false) :
    Calls Tryz.prog 17 #[.agg #[.int .u8 c.tag, .int .i64 c.most, .int .i64 c.seg, .int .i64 c.least, .int .i64 c.den, .int .i64 c.ll, .int .i64 c.rl, .int .i64 c.rh, .int .i64 c.lh, .int .i64 s.seg, .slice wa s.ws.length wc, .slice ka s.ks.length kc, .slice va s.vs.length vc, .slice ca s.cs.length cc, .int .u64 s.laid], .agg #[.int .u8 d.tag, .int .i64 d.most, .int .i64 d.seg, .int .i64 d.least, .int .i64 d.den, .int .i64 d.ll, .int .i64 d.rl, .int .i64 d.rh, .int .i64 d.lh, .int .i64 t.seg, .slice wa' t.ws.length wc', .slice ka' t.ks.length kc', .slice va' t.vs.length vc', .slice ca' t.cs.length cc', .int .u64 t.laid]] w (AnsB w (.bool false)) := by
  go_enter Tryz.func17, Tryz.ntmps17
  have hB0 : Below w.heap.size w ((w.alloc (.cells #[.int .u8 c.tag, .int .i64 c.most, .int .i64 c.seg, .int .i64 c.least, .int .i64 c.den, .int .i64 c.ll, .int .i64 c.rl, .int .i64 c.rh, .int .i64 c.lh, .int .i64 s.seg, .slice wa s.ws.length wc, .slice ka s.ks.length kc, .slice va s.vs.length vc, .slice ca s.cs.length cc, .int .u64 s.laid] 31)).alloc (.cells #[.int .u8 d.tag, .int .i64 d.most, .int .i64 d.seg, .int .i64 d.least, .int .i64 d.den, .int .i64 d.ll, .int .i64 d.rl, .int .i64 d.rh, .int .i64 d.lh, .int .i64 t.seg, .slice wa' t.ws.length wc', .slice ka' t.ks.length kc', .slice va' t.vs.length vc', .slice ca' t.cs.length cc', .int .u64 t.laid] 31)) := by (repeat (first | with_reducible (first | exact Below.refl _ _ | assumption | exact Hid.out (by assumption) | refine Below.alloc ?_ ?_ _ | refine Below.setCell ?_ ?_ _ | refine below_drewN ?_ _ | refine Below.drew ?_ | refine below_via (by assumption) ?_ ?_) | (first | (with_reducible assumption) | omega | (simp only [szW] <;> omega) | (simp <;> omega))))
  go_wp2
  go_ret
  exact ⟨rfl, hB0⟩
set_option maxRecDepth 100000 in
theorem Sm11_p2 (c d : Cfg) (s t : SlC) (wa ka va ca : Option Addr) (wc kc vc cc : Nat) (wa' ka' va' ca' : Option Addr) (wc' kc' vc' cc' : Nat) (w : World) (g0 : (c.tag == d.tag) = true) (g1 : (c.most == d.most) = true) (g2 : (c.seg == d.seg) = false) :
    Calls Tryz.prog 17 #[.agg #[.int .u8 c.tag, .int .i64 c.most, .int .i64 c.seg, .int .i64 c.least, .int .i64 c.den, .int .i64 c.ll, .int .i64 c.rl, .int .i64 c.rh, .int .i64 c.lh, .int .i64 s.seg, .slice wa s.ws.length wc, .slice ka s.ks.length kc, .slice va s.vs.length vc, .slice ca s.cs.length cc, .int .u64 s.laid], .agg #[.int .u8 d.tag, .int .i64 d.most, .int .i64 d.seg, .int .i64 d.least, .int .i64 d.den, .int .i64 d.ll, .int .i64 d.rl, .int .i64 d.rh, .int .i64 d.lh, .int .i64 t.seg, .slice wa' t.ws.length wc', .slice ka' t.ks.length kc', .slice va' t.vs.length vc', .slice ca' t.cs.length cc', .int .u64 t.laid]] w (AnsB w (.bool false)) := by
  go_enter Tryz.func17, Tryz.ntmps17
  have hB0 : Below w.heap.size w ((w.alloc (.cells #[.int .u8 c.tag, .int .i64 c.most, .int .i64 c.seg, .int .i64 c.least, .int .i64 c.den, .int .i64 c.ll, .int .i64 c.rl, .int .i64 c.rh, .int .i64 c.lh, .int .i64 s.seg, .slice wa s.ws.length wc, .slice ka s.ks.length kc, .slice va s.vs.length vc, .slice ca s.cs.length cc, .int .u64 s.laid] 31)).alloc (.cells #[.int .u8 d.tag, .int .i64 d.most, .int .i64 d.seg, .int .i64 d.least, .int .i64 d.den, .int .i64 d.ll, .int .i64 d.rl, .int .i64 d.rh, .int .i64 d.lh, .int .i64 t.seg, .slice wa' t.ws.length wc', .slice ka' t.ks.length kc', .slice va' t.vs.length vc', .slice ca' t.cs.length cc', .int .u64 t.laid] 31)) := by (repeat (first | with_reducible (first | exact Below.refl _ _ | assumption | exact Hid.out (by assumption) | refine Below.alloc ?_ ?_ _ | refine Below.setCell ?_ ?_ _ | refine below_drewN ?_ _ | refine Below.drew ?_ | refine below_via (by assumption) ?_ ?_) | (first | (with_reducible assumption) | omega | (simp only [szW] <;> omega) | (simp <;> omega))))
  go_wp2
  go_ret
  exact ⟨rfl, hB0⟩
set_option maxRecDepth 100000 in
theorem Sm11_p3 (c d : Cfg) (s t : SlC) (wa ka va ca : Option Addr) (wc kc vc cc : Nat) (wa' ka' va' ca' : Option Addr) (wc' kc' vc' cc' : Nat) (w : World) (g0 : (c.tag == d.tag) = true) (g1 : (c.most == d.most) = true) (g2 : (c.seg == d.seg) = true) (g3 : (c.least == d.least) = false) :
    Calls Tryz.prog 17 #[.agg #[.int .u8 c.tag, .int .i64 c.most, .int .i64 c.seg, .int .i64 c.least, .int .i64 c.den, .int .i64 c.ll, .int .i64 c.rl, .int .i64 c.rh, .int .i64 c.lh, .int .i64 s.seg, .slice wa s.ws.length wc, .slice ka s.ks.length kc, .slice va s.vs.length vc, .slice ca s.cs.length cc, .int .u64 s.laid], .agg #[.int .u8 d.tag, .int .i64 d.most, .int .i64 d.seg, .int .i64 d.least, .int .i64 d.den, .int .i64 d.ll, .int .i64 d.rl, .int .i64 d.rh, .int .i64 d.lh, .int .i64 t.seg, .slice wa' t.ws.length wc', .slice ka' t.ks.length kc', .slice va' t.vs.length vc', .slice ca' t.cs.length cc', .int .u64 t.laid]] w (AnsB w (.bool false)) := by
  go_enter Tryz.func17, Tryz.ntmps17
  have hB0 : Below w.heap.size w ((w.alloc (.cells #[.int .u8 c.tag, .int .i64 c.most, .int .i64 c.seg, .int .i64 c.least, .int .i64 c.den, .int .i64 c.ll, .int .i64 c.rl, .int .i64 c.rh, .int .i64 c.lh, .int .i64 s.seg, .slice wa s.ws.length wc, .slice ka s.ks.length kc, .slice va s.vs.length vc, .slice ca s.cs.length cc, .int .u64 s.laid] 31)).alloc (.cells #[.int .u8 d.tag, .int .i64 d.most, .int .i64 d.seg, .int .i64 d.least, .int .i64 d.den, .int .i64 d.ll, .int .i64 d.rl, .int .i64 d.rh, .int .i64 d.lh, .int .i64 t.seg, .slice wa' t.ws.length wc', .slice ka' t.ks.length kc', .slice va' t.vs.length vc', .slice ca' t.cs.length cc', .int .u64 t.laid] 31)) := by (repeat (first | with_reducible (first | exact Below.refl _ _ | assumption | exact Hid.out (by assumption) | refine Below.alloc ?_ ?_ _ | refine Below.setCell ?_ ?_ _ | refine below_drewN ?_ _ | refine Below.drew ?_ | refine below_via (by assumption) ?_ ?_) | (first | (with_reducible assumption) | omega | (simp only [szW] <;> omega) | (simp <;> omega))))
  go_wp2
  go_ret
  exact ⟨rfl, hB0⟩
set_option maxRecDepth 100000 in
theorem Sm11_p4 (c d : Cfg) (s t : SlC) (wa ka va ca : Option Addr) (wc kc vc cc : Nat) (wa' ka' va' ca' : Option Addr) (wc' kc' vc' cc' : Nat) (w : World) (g0 : (c.tag == d.tag) = true) (g1 : (c.most == d.most) = true) (g2 : (c.seg == d.seg) = true) (g3 : (c.least == d.least) = true) (g4 : (c.den == d.den) = false) :
    Calls Tryz.prog 17 #[.agg #[.int .u8 c.tag, .int .i64 c.most, .int .i64 c.seg, .int .i64 c.least, .int .i64 c.den, .int .i64 c.ll, .int .i64 c.rl, .int .i64 c.rh, .int .i64 c.lh, .int .i64 s.seg, .slice wa s.ws.length wc, .slice ka s.ks.length kc, .slice va s.vs.length vc, .slice ca s.cs.length cc, .int .u64 s.laid], .agg #[.int .u8 d.tag, .int .i64 d.most, .int .i64 d.seg, .int .i64 d.least, .int .i64 d.den, .int .i64 d.ll, .int .i64 d.rl, .int .i64 d.rh, .int .i64 d.lh, .int .i64 t.seg, .slice wa' t.ws.length wc', .slice ka' t.ks.length kc', .slice va' t.vs.length vc', .slice ca' t.cs.length cc', .int .u64 t.laid]] w (AnsB w (.bool false)) := by
  go_enter Tryz.func17, Tryz.ntmps17
  have hB0 : Below w.heap.size w ((w.alloc (.cells #[.int .u8 c.tag, .int .i64 c.most, .int .i64 c.seg, .int .i64 c.least, .int .i64 c.den, .int .i64 c.ll, .int .i64 c.rl, .int .i64 c.rh, .int .i64 c.lh, .int .i64 s.seg, .slice wa s.ws.length wc, .slice ka s.ks.length kc, .slice va s.vs.length vc, .slice ca s.cs.length cc, .int .u64 s.laid] 31)).alloc (.cells #[.int .u8 d.tag, .int .i64 d.most, .int .i64 d.seg, .int .i64 d.least, .int .i64 d.den, .int .i64 d.ll, .int .i64 d.rl, .int .i64 d.rh, .int .i64 d.lh, .int .i64 t.seg, .slice wa' t.ws.length wc', .slice ka' t.ks.length kc', .slice va' t.vs.length vc', .slice ca' t.cs.length cc', .int .u64 t.laid] 31)) := by (repeat (first | with_reducible (first | exact Below.refl _ _ | assumption | exact Hid.out (by assumption) | refine Below.alloc ?_ ?_ _ | refine Below.setCell ?_ ?_ _ | refine below_drewN ?_ _ | refine Below.drew ?_ | refine below_via (by assumption) ?_ ?_) | (first | (with_reducible assumption) | omega | (simp only [szW] <;> omega) | (simp <;> omega))))
  go_wp2
  go_ret
  exact ⟨rfl, hB0⟩
set_option maxRecDepth 100000 in
theorem Sm11_p5 (c d : Cfg) (s t : SlC) (wa ka va ca : Option Addr) (wc kc vc cc : Nat) (wa' ka' va' ca' : Option Addr) (wc' kc' vc' cc' : Nat) (w : World) (g0 : (c.tag == d.tag) = true) (g1 : (c.most == d.most) = true) (g2 : (c.seg == d.seg) = true) (g3 : (c.least == d.least) = true) (g4 : (c.den == d.den) = true) (g5 : (c.ll == d.ll) = false) :
    Calls Tryz.prog 17 #[.agg #[.int .u8 c.tag, .int .i64 c.most, .int .i64 c.seg, .int .i64 c.least, .int .i64 c.den, .int .i64 c.ll, .int .i64 c.rl, .int .i64 c.rh, .int .i64 c.lh, .int .i64 s.seg, .slice wa s.ws.length wc, .slice ka s.ks.length kc, .slice va s.vs.length vc, .slice ca s.cs.length cc, .int .u64 s.laid], .agg #[.int .u8 d.tag, .int .i64 d.most, .int .i64 d.seg, .int .i64 d.least, .int .i64 d.den, .int .i64 d.ll, .int .i64 d.rl, .int .i64 d.rh, .int .i64 d.lh, .int .i64 t.seg, .slice wa' t.ws.length wc', .slice ka' t.ks.length kc', .slice va' t.vs.length vc', .slice ca' t.cs.length cc', .int .u64 t.laid]] w (AnsB w (.bool false)) := by
  go_enter Tryz.func17, Tryz.ntmps17
  have hB0 : Below w.heap.size w ((w.alloc (.cells #[.int .u8 c.tag, .int .i64 c.most, .int .i64 c.seg, .int .i64 c.least, .int .i64 c.den, .int .i64 c.ll, .int .i64 c.rl, .int .i64 c.rh, .int .i64 c.lh, .int .i64 s.seg, .slice wa s.ws.length wc, .slice ka s.ks.length kc, .slice va s.vs.length vc, .slice ca s.cs.length cc, .int .u64 s.laid] 31)).alloc (.cells #[.int .u8 d.tag, .int .i64 d.most, .int .i64 d.seg, .int .i64 d.least, .int .i64 d.den, .int .i64 d.ll, .int .i64 d.rl, .int .i64 d.rh, .int .i64 d.lh, .int .i64 t.seg, .slice wa' t.ws.length wc', .slice ka' t.ks.length kc', .slice va' t.vs.length vc', .slice ca' t.cs.length cc', .int .u64 t.laid] 31)) := by (repeat (first | with_reducible (first | exact Below.refl _ _ | assumption | exact Hid.out (by assumption) | refine Below.alloc ?_ ?_ _ | refine Below.setCell ?_ ?_ _ | refine below_drewN ?_ _ | refine Below.drew ?_ | refine below_via (by assumption) ?_ ?_) | (first | (with_reducible assumption) | omega | (simp only [szW] <;> omega) | (simp <;> omega))))
  go_wp2
  go_ret
  exact ⟨rfl, hB0⟩
set_option maxRecDepth 100000 in
theorem Sm11_p6 (c d : Cfg) (s t : SlC) (wa ka va ca : Option Addr) (wc kc vc cc : Nat) (wa' ka' va' ca' : Option Addr) (wc' kc' vc' cc' : Nat) (w : World) (g0 : (c.tag == d.tag) = true) (g1 : (c.most == d.most) = true) (g2 : (c.seg == d.seg) = true) (g3 : (c.least == d.least) = true) (g4 : (c.den == d.den) = true) (g5 : (c.ll == d.ll) = true) (g6 : (c.rl == d.rl) = false) :
    Calls Tryz.prog 17 #[.agg #[.int .u8 c.tag, .int .i64 c.most, .int .i64 c.seg, .int .i64 c.least, .int .i64 c.den, .int .i64 c.ll, .int .i64 c.rl, .int .i64 c.rh, .int .i64 c.lh, .int .i64 s.seg, .slice wa s.ws.length wc, .slice ka s.ks.length kc, .slice va s.vs.length vc, .slice ca s.cs.length cc, .int .u64 s.laid], .agg #[.int .u8 d.tag, .int .i64 d.most, .int .i64 d.seg, .int .i64 d.least, .int .i64 d.den, .int .i64 d.ll, .int .i64 d.rl, .int .i64 d.rh, .int .i64 d.lh, .int .i64 t.seg, .slice wa' t.ws.length wc', .slice ka' t.ks.length kc', .slice va' t.vs.length vc', .slice ca' t.cs.length cc', .int .u64 t.laid]] w (AnsB w (.bool false)) := by
  go_enter Tryz.func17, Tryz.ntmps17
  have hB0 : Below w.heap.size w ((w.alloc (.cells #[.int .u8 c.tag, .int .i64 c.most, .int .i64 c.seg, .int .i64 c.least, .int .i64 c.den, .int .i64 c.ll, .int .i64 c.rl, .int .i64 c.rh, .int .i64 c.lh, .int .i64 s.seg, .slice wa s.ws.length wc, .slice ka s.ks.length kc, .slice va s.vs.length vc, .slice ca s.cs.length cc, .int .u64 s.laid] 31)).alloc (.cells #[.int .u8 d.tag, .int .i64 d.most, .int .i64 d.seg, .int .i64 d.least, .int .i64 d.den, .int .i64 d.ll, .int .i64 d.rl, .int .i64 d.rh, .int .i64 d.lh, .int .i64 t.seg, .slice wa' t.ws.length wc', .slice ka' t.ks.length kc', .slice va' t.vs.length vc', .slice ca' t.cs.length cc', .int .u64 t.laid] 31)) := by (repeat (first | with_reducible (first | exact Below.refl _ _ | assumption | exact Hid.out (by assumption) | refine Below.alloc ?_ ?_ _ | refine Below.setCell ?_ ?_ _ | refine below_drewN ?_ _ | refine Below.drew ?_ | refine below_via (by assumption) ?_ ?_) | (first | (with_reducible assumption) | omega | (simp only [szW] <;> omega) | (simp <;> omega))))
  go_wp2
  go_ret
  exact ⟨rfl, hB0⟩
set_option maxRecDepth 100000 in
theorem Sm11_p7 (c d : Cfg) (s t : SlC) (wa ka va ca : Option Addr) (wc kc vc cc : Nat) (wa' ka' va' ca' : Option Addr) (wc' kc' vc' cc' : Nat) (w : World) (g0 : (c.tag == d.tag) = true) (g1 : (c.most == d.most) = true) (g2 : (c.seg == d.seg) = true) (g3 : (c.least == d.least) = true) (g4 : (c.den == d.den) = true) (g5 : (c.ll == d.ll) = true) (g6 : (c.rl == d.rl) = true) (g7 : (c.rh == d.rh) = false) :
    Calls Tryz.prog 17 #[.agg #[.int .u8 c.tag, .int .i64 c.most, .int .i64 c.seg, .int .i64 c.least, .int .i64 c.den, .int .i64 c.ll, .int .i64 c.rl, .int .i64 c.rh, .int .i64 c.lh, .int .i64 s.seg, .slice wa s.ws.length wc, .slice ka s.ks.length kc, .slice va s.vs.length vc, .slice ca s.cs.length cc, .int .u64 s.laid], .agg #[.int .u8 d.tag, .int .i64 d.most, .int .i64 d.seg, .int .i64 d.least, .int .i64 d.den, .int .i64 d.ll, .int .i64 d.rl, .int .i64 d.rh, .int .i64 d.lh, .int .i64 t.seg, .slice wa' t.ws.length wc', .slice ka' t.ks.length kc', .slice va' t.vs.length vc', .slice ca' t.cs.length cc', .int .u64 t.laid]] w (AnsB w (.bool false)) := by
  go_enter Tryz.func17, Tryz.ntmps17
  have hB0 : Below w.heap.size w ((w.alloc (.cells #[.int .u8 c.tag, .int .i64 c.most, .int .i64 c.seg, .int .i64 c.least, .int .i64 c.den, .int .i64 c.ll, .int .i64 c.rl, .int .i64 c.rh, .int .i64 c.lh, .int .i64 s.seg, .slice wa s.ws.length wc, .slice ka s.ks.length kc, .slice va s.vs.length vc, .slice ca s.cs.length cc, .int .u64 s.laid] 31)).alloc (.cells #[.int .u8 d.tag, .int .i64 d.most, .int .i64 d.seg, .int .i64 d.least, .int .i64 d.den, .int .i64 d.ll, .int .i64 d.rl, .int .i64 d.rh, .int .i64 d.lh, .int .i64 t.seg, .slice wa' t.ws.length wc', .slice ka' t.ks.length kc', .slice va' t.vs.length vc', .slice ca' t.cs.length cc', .int .u64 t.laid] 31)) := by (repeat (first | with_reducible (first | exact Below.refl _ _ | assumption | exact Hid.out (by assumption) | refine Below.alloc ?_ ?_ _ | refine Below.setCell ?_ ?_ _ | refine below_drewN ?_ _ | refine Below.drew ?_ | refine below_via (by assumption) ?_ ?_) | (first | (with_reducible assumption) | omega | (simp only [szW] <;> omega) | (simp <;> omega))))
  go_wp2
  go_ret
  exact ⟨rfl, hB0⟩
set_option maxRecDepth 100000 in
theorem Sm11_p8 (c d : Cfg) (s t : SlC) (wa ka va ca : Option Addr) (wc kc vc cc : Nat) (wa' ka' va' ca' : Option Addr) (wc' kc' vc' cc' : Nat) (w : World) (g0 : (c.tag == d.tag) = true) (g1 : (c.most == d.most) = true) (g2 : (c.seg == d.seg) = true) (g3 : (c.least == d.least) = true) (g4 : (c.den == d.den) = true) (g5 : (c.ll == d.ll) = true) (g6 : (c.rl == d.rl) = true) (g7 : (c.rh == d.rh) = true) (g8 : (c.lh == d.lh) = false) :
    Calls Tryz.prog 17 #[.agg #[.int .u8 c.tag, .int .i64 c.most, .int .i64 c.seg, .int .i64 c.least, .int .i64 c.den, .int .i64 c.ll, .int .i64 c.rl, .int .i64 c.rh, .int .i64 c.lh, .int .i64 s.seg, .slice wa s.ws.length wc, .slice ka s.ks.length kc, .slice va s.vs.length vc, .slice ca s.cs.length cc, .int .u64 s.laid], .agg #[.int .u8 d.tag, .int .i64 d.most, .int .i64 d.seg, .int .i64 d.least, .int .i64 d.den, .int .i64 d.ll, .int .i64 d.rl, .int .i64 d.rh, .int .i64 d.lh, .int .i64 t.seg, .slice wa' t.ws.length wc', .slice ka' t.ks.length kc', .slice va' t.vs.length vc', .slice ca' t.cs.length cc', .int .u64 t.laid]] w (AnsB w (.bool false)) := by
  go_enter Tryz.func17, Tryz.ntmps17
  have hB0 : Below w.heap.size w ((w.alloc (.cells #[.int .u8 c.tag, .int .i64 c.most, .int .i64 c.seg, .int .i64 c.least, .int .i64 c.den, .int .i64 c.ll, .int .i64 c.rl, .int .i64 c.rh, .int .i64 c.lh, .int .i64 s.seg, .slice wa s.ws.length wc, .slice ka s.ks.length kc, .slice va s.vs.length vc, .slice ca s.cs.length cc, .int .u64 s.laid] 31)).alloc (.cells #[.int .u8 d.tag, .int .i64 d.most, .int .i64 d.seg, .int .i64 d.least, .int .i64 d.den, .int .i64 d.ll, .int .i64 d.rl, .int .i64 d.rh, .int .i64 d.lh, .int .i64 t.seg, .slice wa' t.ws.length wc', .slice ka' t.ks.length kc', .slice va' t.vs.length vc', .slice ca' t.cs.length cc', .int .u64 t.laid] 31)) := by (repeat (first | with_reducible (first | exact Below.refl _ _ | assumption | exact Hid.out (by assumption) | refine Below.alloc ?_ ?_ _ | refine Below.setCell ?_ ?_ _ | refine below_drewN ?_ _ | refine Below.drew ?_ | refine below_via (by assumption) ?_ ?_) | (first | (with_reducible assumption) | omega | (simp only [szW] <;> omega) | (simp <;> omega))))
  go_wp2
  go_ret
  exact ⟨rfl, hB0⟩
set_option maxRecDepth 100000 in
theorem Sm11_p9 (c d : Cfg) (s t : SlC) (wa ka va ca : Option Addr) (wc kc vc cc : Nat) (wa' ka' va' ca' : Option Addr) (wc' kc' vc' cc' : Nat) (w : World) (g0 : (c.tag == d.tag) = true) (g1 : (c.most == d.most) = true) (g2 : (c.seg == d.seg) = true) (g3 : (c.least == d.least) = true) (g4 : (c.den == d.den) = true) (g5 : (c.ll == d.ll) = true) (g6 : (c.rl == d.rl) = true) (g7 : (c.rh == d.rh) = true) (g8 : (c.lh == d.lh) = true) (b : Bool) (SM : Hid (∀ W, Below w.heap.size w W → Calls Tryz.prog 37 #[.agg #[.int .i64 s.seg, .slice wa s.ws.length wc, .slice ka s.ks.length kc, .slice va s.vs.length vc, .slice ca s.cs.length cc, .int .u64 s.laid], .agg #[.int .i64 t.seg, .slice wa' t.ws.length wc', .slice ka' t.ks.length kc', .slice va' t.vs.length vc', .slice ca' t.cs.length cc', .int .u64 t.laid]] W (AnsB W (.bool b)))) :
    Calls Tryz.prog 17 #[.agg #[.int .u8 c.tag, .int .i64 c.most, .int .i64 c.seg, .int .i64 c.least, .int .i64 c.den, .int .i64 c.ll, .int .i64 c.rl, .int .i64 c.rh, .int .i64 c.lh, .int .i64 s.seg, .slice wa s.ws.length wc, .slice ka s.ks.length kc, .slice va s.vs.length vc, .slice ca s.cs.length cc, .int .u64 s.laid], .agg #[.int .u8 d.tag, .int .i64 d.most, .int .i64 d.seg, .int .i64 d.least, .int .i64 d.den, .int .i64 d.ll, .int .i64 d.rl, .int .i64 d.rh, .int .i64 d.lh, .int .i64 t.seg, .slice wa' t.ws.length wc', .slice ka' t.ks.length kc', .slice va' t.vs.length vc', .slice ca' t.cs.length cc', .int .u64 t.laid]] w (AnsB w (.bool b)) := by
  go_enter Tryz.func17, Tryz.ntmps17
  go_wp2_with fail
  refine (SM.out _ (by (repeat (first | with_reducible (first | exact Below.refl _ _ | assumption | exact Hid.out (by assumption) | refine Below.alloc ?_ ?_ _ | refine Below.setCell ?_ ?_ _ | refine below_drewN ?_ _ | refine Below.drew ?_ | refine below_via (by assumption) ?_ ?_) | (first | (with_reducible assumption) | omega | (simp only [szW] <;> omega) | (simp <;> omega)))))).mono ?_
  rintro e w1 ⟨rfl, hb1⟩
  have hz_w1 := hb1.size
  try simp only [World.size_alloc, World.size_setCell] at hz_w1
  have hh := bc15 hb1 (au15 (al15 (b := w.heap.size) (by simp)))
  obtain ⟨c_t0, c_t1, c_t2, c_t3, c_t4, c_t5, c_t6, c_t7, c_t8, c_t9, c_t10, c_t11, c_t12, c_t13, c_t14⟩ := hh
  have z_t := blt hb1 (auz (alz (b := w.heap.size) (by simp)))
  have hh := bc15 hb1 (al15 (b := w.heap.size + 1) (by simp))
  obtain ⟨c_o0, c_o1, c_o2, c_o3, c_o4, c_o5, c_o6, c_o7, c_o8, c_o9, c_o10, c_o11, c_o12, c_o13, c_o14⟩ := hh
  have z_o := blt hb1 (alz (b := w.heap.size + 1) (by simp))
  have hB1 : Below w.heap.size w w1 := by (repeat (first | with_reducible (first | exact Below.refl _ _ | assumption | exact Hid.out (by assumption) | refine Below.alloc ?_ ?_ _ | refine Below.setCell ?_ ?_ _ | refine below_drewN ?_ _ | refine Below.drew ?_ | refine below_via (by assumption) ?_ ?_) | (first | (with_reducible assumption) | omega | (simp only [szW] <;> omega) | (simp <;> omega))))
  go_wp2
  go_ret
  exact ⟨rfl, hB1⟩
theorem Sm11_ok (c d : Cfg) (s t : SlC) (a a' : SlA) (w : World) (hin : SlIn w s a) (hin' : SlIn w t a') (hl1 : s.ws.length ≤ 1000000000) (hl2 : s.ks.length ≤ 1000000000) (hl3 : s.vs.length ≤ 1000000000) (hl4 : s.cs.length ≤ 1000000000) :
    Calls Tryz.prog 17 #[pmV c s a, pmV d t a'] w (AnsB w (.bool (pmB c s d t))) := by
  unfold pmB cfB
  by_cases h0 : c.tag = d.tag
  case neg =>
    have g0 : (c.tag == d.tag) = false := by simpa using h0
    simp only [decide_eq_false h0, Bool.false_and]
    exact Sm11_p0 c d s t a.wa a.ka a.va a.ca a.wc a.kc a.vc a.cc a'.wa a'.ka a'.va a'.ca a'.wc a'.kc a'.vc a'.cc w  g0
  have g0 : (c.tag == d.tag) = true := by simpa using h0
  rw [decide_eq_true h0, Bool.true_and]
  by_cases h1 : c.most = d.most
  case neg =>
    have g1 : (c.most == d.most) = false := by simpa using h1
    simp only [decide_eq_false h1, Bool.false_and]
    exact Sm11_p1 c d s t a.wa a.ka a.va a.ca a.wc a.kc a.vc a.cc a'.wa a'.ka a'.va a'.ca a'.wc a'.kc a'.vc a'.cc w g0 g1
  have g1 : (c.most == d.most) = true := by simpa using h1
  rw [decide_eq_true h1, Bool.true_and]
  by_cases h2 : c.seg = d.seg
  case neg =>
    have g2 : (c.seg == d.seg) = false := by simpa using h2
    simp only [decide_eq_false h2, Bool.false_and]
    exact Sm11_p2 c d s t a.wa a.ka a.va a.ca a.wc a.kc a.vc a.cc a'.wa a'.ka a'.va a'.ca a'.wc a'.kc a'.vc a'.cc w g0 g1 g2
  have g2 : (c.seg == d.seg) = true := by simpa using h2
  rw [decide_eq_true h2, Bool.true_and]
  by_cases h3 : c.least = d.least
  case neg =>
    have g3 : (c.least == d.least) = false := by simpa using h3
    simp only [decide_eq_false h3, Bool.false_and]
    exact Sm11_p3 c d s t a.wa a.ka a.va a.ca a.wc a.kc a.vc a.cc a'.wa a'.ka a'.va a'.ca a'.wc a'.kc a'.vc a'.cc w g0 g1 g2 g3
  have g3 : (c.least == d.least) = true := by simpa using h3
  rw [decide_eq_true h3, Bool.true_and]
  by_cases h4 : c.den = d.den
  case neg =>
    have g4 : (c.den == d.den) = false := by simpa using h4
    simp only [decide_eq_false h4, Bool.false_and]
    exact Sm11_p4 c d s t a.wa a.ka a.va a.ca a.wc a.kc a.vc a.cc a'.wa a'.ka a'.va a'.ca a'.wc a'.kc a'.vc a'.cc w g0 g1 g2 g3 g4
  have g4 : (c.den == d.den) = true := by simpa using h4
  rw [decide_eq_true h4, Bool.true_and]
  by_cases h5 : c.ll = d.ll
  case neg =>
    have g5 : (c.ll == d.ll) = false := by simpa using h5
    simp only [decide_eq_false h5, Bool.false_and]
    exact Sm11_p5 c d s t a.wa a.ka a.va a.ca a.wc a.kc a.vc a.cc a'.wa a'.ka a'.va a'.ca a'.wc a'.kc a'.vc a'.cc w g0 g1 g2 g3 g4 g5
  have g5 : (c.ll == d.ll) = true := by simpa using h5
  rw [decide_eq_true h5, Bool.true_and]
  by_cases h6 : c.rl = d.rl
  case neg =>
    have g6 : (c.rl == d.rl) = false := by simpa using h6
    simp only [decide_eq_false h6, Bool.false_and]
    exact Sm11_p6 c d s t a.wa a.ka a.va a.ca a.wc a.kc a.vc a.cc a'.wa a'.ka a'.va a'.ca a'.wc a'.kc a'.vc a'.cc w g0 g1 g2 g3 g4 g5 g6
  have g6 : (c.rl == d.rl) = true := by simpa using h6
  rw [decide_eq_true h6, Bool.true_and]
  by_cases h7 : c.rh = d.rh
  case neg =>
    have g7 : (c.rh == d.rh) = false := by simpa using h7
    simp only [decide_eq_false h7, Bool.false_and]
    exact Sm11_p7 c d s t a.wa a.ka a.va a.ca a.wc a.kc a.vc a.cc a'.wa a'.ka a'.va a'.ca a'.wc a'.kc a'.vc a'.cc w g0 g1 g2 g3 g4 g5 g6 g7
  have g7 : (c.rh == d.rh) = true := by simpa using h7
  rw [decide_eq_true h7, Bool.true_and]
  by_cases h8 : c.lh = d.lh
  case neg =>
    have g8 : (c.lh == d.lh) = false := by simpa using h8
    simp only [decide_eq_false h8, Bool.false_and]
    exact Sm11_p8 c d s t a.wa a.ka a.va a.ca a.wc a.kc a.vc a.cc a'.wa a'.ka a'.va a'.ca a'.wc a'.kc a'.vc a'.cc w g0 g1 g2 g3 g4 g5 g6 g7 g8
  have g8 : (c.lh == d.lh) = true := by simpa using h8
  rw [decide_eq_true h8, Bool.true_and]
  exact Sm11_p9 c d s t a.wa a.ka a.va a.ca a.wc a.kc a.vc a.cc a'.wa a'.ka a'.va a'.ca a'.wc a'.kc a'.vc a'.cc w g0 g1 g2 g3 g4 g5 g6 g7 g8 (sameB s t) (Lib.hid fun W hb => Sm04_ok s t a a' W (hin.below hb) (hin'.below hb) hl1 hl2 hl3 hl4)
set_option maxRecDepth 100000 in
theorem SmPm_p0 (c d : Cfg) (s t : SlC) (wa ka va ca : Option Addr) (wc kc vc cc : Nat) (wa' ka' va' ca' : Option Addr) (wc' kc' vc' cc' : Nat) (w : World) (g0 : (c.tag == d.tag) = false) :
    Calls Tryz.prog 16 #[.agg #[.int .u8 c.tag, .int .i64 c.most, .int .i64 c.seg, .int .i64 c.least, .int .i64 c.den, .int .i64 c.ll, .int .i64 c.rl, .int .i64 c.rh, .int .i64 c.lh, .int .i64 s.seg, .slice wa s.ws.length wc, .slice ka s.ks.length kc, .slice va s.vs.length vc, .slice ca s.cs.length cc, .int .u64 s.laid], .agg #[.int .u8 d.tag, .int .i64 d.most, .int .i64 d.seg, .int .i64 d.least, .int .i64 d.den, .int .i64 d.ll, .int .i64 d.rl, .int .i64 d.rh, .int .i64 d.lh, .int .i64 t.seg, .slice wa' t.ws.length wc', .slice ka' t.ks.length kc', .slice va' t.vs.length vc', .slice ca' t.cs.length cc', .int .u64 t.laid]] w (AnsB w (.bool false)) := by
  go_enter Tryz.func16, Tryz.ntmps16
  have hB0 : Below w.heap.size w ((w.alloc (.cells #[.int .u8 c.tag, .int .i64 c.most, .int .i64 c.seg, .int .i64 c.least, .int .i64 c.den, .int .i64 c.ll, .int .i64 c.rl, .int .i64 c.rh, .int .i64 c.lh, .int .i64 s.seg, .slice wa s.ws.length wc, .slice ka s.ks.length kc, .slice va s.vs.length vc, .slice ca s.cs.length cc, .int .u64 s.laid] 31)).alloc (.cells #[.int .u8 d.tag, .int .i64 d.most, .int .i64 d.seg, .int .i64 d.least, .int .i64 d.den, .int .i64 d.ll, .int .i64 d.rl, .int .i64 d.rh, .int .i64 d.lh, .int .i64 t.seg, .slice wa' t.ws.length wc', .slice ka' t.ks.length kc', .slice va' t.vs.length vc', .slice ca' t.cs.length cc', .int .u64 t.laid] 31)) := by (repeat (first | with_reducible (first | exact Below.refl _ _ | assumption | exact Hid.out (by assumption) | refine Below.alloc ?_ ?_ _ | refine Below.setCell ?_ ?_ _ | refine below_drewN ?_ _ | refine Below.drew ?_ | refine below_via (by assumption) ?_ ?_) | (first | (with_reducible assumption) | omega | (simp only [szW] <;> omega) | (simp <;> omega))))
  go_wp2
  go_ret
  exact ⟨rfl, hB0⟩
set_option maxRecDepth 100000 in
theorem SmPm_p1 (c d : Cfg) (s t : SlC) (wa ka va ca : Option Addr) (wc kc vc cc : Nat) (wa' ka' va' ca' : Option Addr) (wc' kc' vc' cc' : Nat) (w : World) (g0 : (c.tag == d.tag) = true) (g1 : (c.most == d.most) = false) :
    Calls Tryz.prog 16 #[.agg #[.int .u8 c.tag, .int .i64 c.most, .int .i64 c.seg, .int .i64 c.least, .int .i64 c.den, .int .i64 c.ll, .int .i64 c.rl, .int .i64 c.rh, .int .i64 c.lh, .int .i64 s.seg, .slice wa s.ws.length wc, .slice ka s.ks.length kc, .slice va s.vs.length vc, .slice ca s.cs.length cc, .int .u64 s.laid], .agg #[.int .u8 d.tag, .int .i64 d.most, .int .i64 d.seg, .int .i64 d.least, .int .i64 d.den, .int .i64 d.ll, .int .i64 d.rl, .int .i64 d.rh, .int .i64 d.lh, .int .i64 t.seg, .slice wa' t.ws.length wc', .slice ka' t.ks.length kc', .slice va' t.vs.length vc', .slice ca' t.cs.length cc', .int .u64 t.laid]] w (AnsB w (.bool false)) := by
  go_enter Tryz.func16, Tryz.ntmps16
  have hB0 : Below w.heap.size w ((w.alloc (.cells #[.int .u8 c.tag, .int .i64 c.most, .int .i64 c.seg, .int .i64 c.least, .int .i64 c.den, .int .i64 c.ll, .int .i64 c.rl, .int .i64 c.rh, .int .i64 c.lh, .int .i64 s.seg, .slice wa s.ws.length wc, .slice ka s.ks.length kc, .slice va s.vs.length vc, .slice ca s.cs.length cc, .int .u64 s.laid] 31)).alloc (.cells #[.int .u8 d.tag, .int .i64 d.most, .int .i64 d.seg, .int .i64 d.least, .int .i64 d.den, .int .i64 d.ll, .int .i64 d.rl, .int .i64 d.rh, .int .i64 d.lh, .int .i64 t.seg, .slice wa' t.ws.length wc', .slice ka' t.ks.length kc', .slice va' t.vs.length vc', .slice ca' t.cs.length cc', .int .u64 t.laid] 31)) := by (repeat (first | with_reducible (first | exact Below.refl _ _ | assumption | exact Hid.out (by assumption) | refine Below.alloc ?_ ?_ _ | refine Below.setCell ?_ ?_ _ | refine below_drewN ?_ _ | refine Below.drew ?_ | refine below_via (by assumption) ?_ ?_) | (first | (with_reducible assumption) | omega | (simp only [szW] <;> omega) | (simp <;> omega))))
  go_wp2
  go_ret
  exact ⟨rfl, hB0⟩
set_option maxRecDepth 100000 in
theorem SmPm_p2 (c d : Cfg) (s t : SlC) (wa ka va ca : Option Addr) (wc kc vc cc : Nat) (wa' ka' va' ca' : Option Addr) (wc' kc' vc' cc' : Nat) (w : World) (g0 : (c.tag == d.tag) = true) (g1 : (c.most == d.most) = true) (g2 : (c.seg == d.seg) = false) :
    Calls Tryz.prog 16 #[.agg #[.int .u8 c.tag, .int .i64 c.most, .int .i64 c.seg, .int .i64 c.least, .int .i64 c.den, .int .i64 c.ll, .int .i64 c.rl, .int .i64 c.rh, .int .i64 c.lh, .int .i64 s.seg, .slice wa s.ws.length wc, .slice ka s.ks.length kc, .slice va s.vs.length vc, .slice ca s.cs.length cc, .int .u64 s.laid], .agg #[.int .u8 d.tag, .int .i64 d.most, .int .i64 d.seg, .int .i64 d.least, .int .i64 d.den, .int .i64 d.ll, .int .i64 d.rl, .int .i64 d.rh, .int .i64 d.lh, .int .i64 t.seg, .slice wa' t.ws.length wc', .slice ka' t.ks.length kc', .slice va' t.vs.length vc', .slice ca' t.cs.length cc', .int .u64 t.laid]] w (AnsB w (.bool false)) := by
  go_enter Tryz.func16, Tryz.ntmps16
  have hB0 : Below w.heap.size w ((w.alloc (.cells #[.int .u8 c.tag, .int .i64 c.most, .int .i64 c.seg, .int .i64 c.least, .int .i64 c.den, .int .i64 c.ll, .int .i64 c.rl, .int .i64 c.rh, .int .i64 c.lh, .int .i64 s.seg, .slice wa s.ws.length wc, .slice ka s.ks.length kc, .slice va s.vs.length vc, .slice ca s.cs.length cc, .int .u64 s.laid] 31)).alloc (.cells #[.int .u8 d.tag, .int .i64 d.most, .int .i64 d.seg, .int .i64 d.least, .int .i64 d.den, .int .i64 d.ll, .int .i64 d.rl, .int .i64 d.rh, .int .i64 d.lh, .int .i64 t.seg, .slice wa' t.ws.length wc', .slice ka' t.ks.length kc', .slice va' t.vs.length vc', .slice ca' t.cs.length cc', .int .u64 t.laid] 31)) := by (repeat (first | with_reducible (first | exact Below.refl _ _ | assumption | exact Hid.out (by assumption) | refine Below.alloc ?_ ?_ _ | refine Below.setCell ?_ ?_ _ | refine below_drewN ?_ _ | refine Below.drew ?_ | refine below_via (by assumption) ?_ ?_) | (first | (with_reducible assumption) | omega | (simp only [szW] <;> omega) | (simp <;> omega))))
  go_wp2
  go_ret
  exact ⟨rfl, hB0⟩
set_option maxRecDepth 100000 in
theorem SmPm_p3 (c d : Cfg) (s t : SlC) (wa ka va ca : Option Addr) (wc kc vc cc : Nat) (wa' ka' va' ca' : Option Addr) (wc' kc' vc' cc' : Nat) (w : World) (g0 : (c.tag == d.tag) = true) (g1 : (c.most == d.most) = true) (g2 : (c.seg == d.seg) = true) (g3 : (c.least == d.least) = false) :
    Calls Tryz.prog 16 #[.agg #[.int .u8 c.tag, .int .i64 c.most, .int .i64 c.seg, .int .i64 c.least, .int .i64 c.den, .int .i64 c.ll, .int .i64 c.rl, .int .i64 c.rh, .int .i64 c.lh, .int .i64 s.seg, .slice wa s.ws.length wc, .slice ka s.ks.length kc, .slice va s.vs.length vc, .slice ca s.cs.length cc, .int .u64 s.laid], .agg #[.int .u8 d.tag, .int .i64 d.most, .int .i64 d.seg, .int .i64 d.least, .int .i64 d.den, .int .i64 d.ll, .int .i64 d.rl, .int .i64 d.rh, .int .i64 d.lh, .int .i64 t.seg, .slice wa' t.ws.length wc', .slice ka' t.ks.length kc', .slice va' t.vs.length vc', .slice ca' t.cs.length cc', .int .u64 t.laid]] w (AnsB w (.bool false)) := by
  go_enter Tryz.func16, Tryz.ntmps16
  have hB0 : Below w.heap.size w ((w.alloc (.cells #[.int .u8 c.tag, .int .i64 c.most, .int .i64 c.seg, .int .i64 c.least, .int .i64 c.den, .int .i64 c.ll, .int .i64 c.rl, .int .i64 c.rh, .int .i64 c.lh, .int .i64 s.seg, .slice wa s.ws.length wc, .slice ka s.ks.length kc, .slice va s.vs.length vc, .slice ca s.cs.length cc, .int .u64 s.laid] 31)).alloc (.cells #[.int .u8 d.tag, .int .i64 d.most, .int .i64 d.seg, .int .i64 d.least, .int .i64 d.den, .int .i64 d.ll, .int .i64 d.rl, .int .i64 d.rh, .int .i64 d.lh, .int .i64 t.seg, .slice wa' t.ws.length wc', .slice ka' t.ks.length kc', .slice va' t.vs.length vc', .slice ca' t.cs.length cc', .int .u64 t.laid] 31)) := by (repeat (first | with_reducible (first | exact Below.refl _ _ | assumption | exact Hid.out (by assumption) | refine Below.alloc ?_ ?_ _ | refine Below.setCell ?_ ?_ _ | refine below_drewN ?_ _ | refine Below.drew ?_ | refine below_via (by assumption) ?_ ?_) | (first | (with_reducible assumption) | omega | (simp only [szW] <;> omega) | (simp <;> omega))))
  go_wp2
  go_ret
  exact ⟨rfl, hB0⟩
set_option maxRecDepth 100000 in
theorem SmPm_p4 (c d : Cfg) (s t : SlC) (wa ka va ca : Option Addr) (wc kc vc cc : Nat) (wa' ka' va' ca' : Option Addr) (wc' kc' vc' cc' : Nat) (w : World) (g0 : (c.tag == d.tag) = true) (g1 : (c.most == d.most) = true) (g2 : (c.seg == d.seg) = true) (g3 : (c.least == d.least) = true) (g4 : (c.den == d.den) = false) :
    Calls Tryz.prog 16 #[.agg #[.int .u8 c.tag, .int .i64 c.most, .int .i64 c.seg, .int .i64 c.least, .int .i64 c.den, .int .i64 c.ll, .int .i64 c.rl, .int .i64 c.rh, .int .i64 c.lh, .int .i64 s.seg, .slice wa s.ws.length wc, .slice ka s.ks.length kc, .slice va s.vs.length vc, .slice ca s.cs.length cc, .int .u64 s.laid], .agg #[.int .u8 d.tag, .int .i64 d.most, .int .i64 d.seg, .int .i64 d.least, .int .i64 d.den, .int .i64 d.ll, .int .i64 d.rl, .int .i64 d.rh, .int .i64 d.lh, .int .i64 t.seg, .slice wa' t.ws.length wc', .slice ka' t.ks.length kc', .slice va' t.vs.length vc', .slice ca' t.cs.length cc', .int .u64 t.laid]] w (AnsB w (.bool false)) := by
  go_enter Tryz.func16, Tryz.ntmps16
  have hB0 : Below w.heap.size w ((w.alloc (.cells #[.int .u8 c.tag, .int .i64 c.most, .int .i64 c.seg, .int .i64 c.least, .int .i64 c.den, .int .i64 c.ll, .int .i64 c.rl, .int .i64 c.rh, .int .i64 c.lh, .int .i64 s.seg, .slice wa s.ws.length wc, .slice ka s.ks.length kc, .slice va s.vs.length vc, .slice ca s.cs.length cc, .int .u64 s.laid] 31)).alloc (.cells #[.int .u8 d.tag, .int .i64 d.most, .int .i64 d.seg, .int .i64 d.least, .int .i64 d.den, .int .i64 d.ll, .int .i64 d.rl, .int .i64 d.rh, .int .i64 d.lh, .int .i64 t.seg, .slice wa' t.ws.length wc', .slice ka' t.ks.length kc', .slice va' t.vs.length vc', .slice ca' t.cs.length cc', .int .u64 t.laid] 31)) := by (repeat (first | with_reducible (first | exact Below.refl _ _ | assumption | exact Hid.out (by assumption) | refine Below.alloc ?_ ?_ _ | refine Below.setCell ?_ ?_ _ | refine below_drewN ?_ _ | refine Below.drew ?_ | refine below_via (by assumption) ?_ ?_) | (first | (with_reducible assumption) | omega | (simp only [szW] <;> omega) | (simp <;> omega))))
  go_wp2
  go_ret
  exact ⟨rfl, hB0⟩
set_option maxRecDepth 100000 in
theorem SmPm_p5 (c d : Cfg) (s t : SlC) (wa ka va ca : Option Addr) (wc kc vc cc : Nat) (wa' ka' va' ca' : Option Addr) (wc' kc' vc' cc' : Nat) (w : World) (g0 : (c.tag == d.tag) = true) (g1 : (c.most == d.most) = true) (g2 : (c.seg == d.seg) = true) (g3 : (c.least == d.least) = true) (g4 : (c.den == d.den) = true) (g5 : (c.ll == d.ll) = false) :
    Calls Tryz.prog 16 #[.agg #[.int .u8 c.tag, .int .i64 c.most, .int .i64 c.seg, .int .i64 c.least, .int .i64 c.den, .int .i64 c.ll, .int .i64 c.rl, .int .i64 c.rh, .int .i64 c.lh, .int .i64 s.seg, .slice wa s.ws.length wc, .slice ka s.ks.length kc, .slice va s.vs.length vc, .slice ca s.cs.length cc, .int .u64 s.laid], .agg #[.int .u8 d.tag, .int .i64 d.most, .int .i64 d.seg, .int .i64 d.least, .int .i64 d.den, .int .i64 d.ll, .int .i64 d.rl, .int .i64 d.rh, .int .i64 d.lh, .int .i64 t.seg, .slice wa' t.ws.length wc', .slice ka' t.ks.length kc', .slice va' t.vs.length vc', .slice ca' t.cs.length cc', .int .u64 t.laid]] w (AnsB w (.bool false)) := by
  go_enter Tryz.func16, Tryz.ntmps16
  have hB0 : Below w.heap.size w ((w.alloc (.cells #[.int .u8 c.tag, .int .i64 c.most, .int .i64 c.seg, .int .i64 c.least, .int .i64 c.den, .int .i64 c.ll, .int .i64 c.rl, .int .i64 c.rh, .int .i64 c.lh, .int .i64 s.seg, .slice wa s.ws.length wc, .slice ka s.ks.length kc, .slice va s.vs.length vc, .slice ca s.cs.length cc, .int .u64 s.laid] 31)).alloc (.cells #[.int .u8 d.tag, .int .i64 d.most, .int .i64 d.seg, .int .i64 d.least, .int .i64 d.den, .int .i64 d.ll, .int .i64 d.rl, .int .i64 d.rh, .int .i64 d.lh, .int .i64 t.seg, .slice wa' t.ws.length wc', .slice ka' t.ks.length kc', .slice va' t.vs.length vc', .slice ca' t.cs.length cc', .int .u64 t.laid] 31)) := by (repeat (first | with_reducible (first | exact Below.refl _ _ | assumption | exact Hid.out (by assumption) | refine Below.alloc ?_ ?_ _ | refine Below.setCell ?_ ?_ _ | refine below_drewN ?_ _ | refine Below.drew ?_ | refine below_via (by assumption) ?_ ?_) | (first | (with_reducible assumption) | omega | (simp only [szW] <;> omega) | (simp <;> omega))))
  go_wp2
  go_ret
  exact ⟨rfl, hB0⟩
set_option maxRecDepth 100000 in
theorem SmPm_p6 (c d : Cfg) (s t : SlC) (wa ka va ca : Option Addr) (wc kc vc cc : Nat) (wa' ka' va' ca' : Option Addr) (wc' kc' vc' cc' : Nat) (w : World) (g0 : (c.tag == d.tag) = true) (g1 : (c.most == d.most) = true) (g2 : (c.seg == d.seg) = true) (g3 : (c.least == d.least) = true) (g4 : (c.den == d.den) = true) (g5 : (c.ll == d.ll) = true) (g6 : (c.rl == d.rl) = false) :
    Calls Tryz.prog 16 #[.agg #[.int .u8 c.tag, .int .i64 c.most, .int .i64 c.seg, .int .i64 c.least, .int .i64 c.den, .int .i64 c.ll, .int .i64 c.rl, .int .i64 c.rh, .int .i64 c.lh, .int .i64 s.seg, .slice wa s.ws.length wc, .slice ka s.ks.length kc, .slice va s.vs.length vc, .slice ca s.cs.length cc, .int .u64 s.laid], .agg #[.int .u8 d.tag, .int .i64 d.most, .int .i64 d.seg, .int .i64 d.least, .int .i64 d.den, .int .i64 d.ll, .int .i64 d.rl, .int .i64 d.rh, .int .i64 d.lh, .int .i64 t.seg, .slice wa' t.ws.length wc', .slice ka' t.ks.length kc', .slice va' t.vs.length vc', .slice ca' t.cs.length cc', .int .u64 t.laid]] w (AnsB w (.bool false)) := by
  go_enter Tryz.func16, Tryz.ntmps16
  have hB0 : Below w.heap.size w ((w.alloc (.cells #[.int .u8 c.tag, .int .i64 c.most, .int .i64 c.seg, .int .i64 c.least, .int .i64 c.den, .int .i64 c.ll, .int .i64 c.rl, .int .i64 c.rh, .int .i64 c.lh, .int .i64 s.seg, .slice wa s.ws.length wc, .slice ka s.ks.length kc, .slice va s.vs.length vc, .slice ca s.cs.length cc, .int .u64 s.laid] 31)).alloc (.cells #[.int .u8 d.tag, .int .i64 d.most, .int .i64 d.seg, .int .i64 d.least, .int .i64 d.den, .int .i64 d.ll, .int .i64 d.rl, .int .i64 d.rh, .int .i64 d.lh, .int .i64 t.seg, .slice wa' t.ws.length wc', .slice ka' t.ks.length kc', .slice va' t.vs.length vc', .slice ca' t.cs.length cc', .int .u64 t.laid] 31)) := by (repeat (first | with_reducible (first | exact Below.refl _ _ | assumption | exact Hid.out (by assumption) | refine Below.alloc ?_ ?_ _ | refine Below.setCell ?_ ?_ _ | refine below_drewN ?_ _ | refine Below.drew ?_ | refine below_via (by assumption) ?_ ?_) | (first | (with_reducible assumption) | omega | (simp only [szW] <;> omega) | (simp <;> omega))))
  go_wp2
  go_ret
  exact ⟨rfl, hB0⟩
set_option maxRecDepth 100000 in
theorem SmPm_p7 (c d : Cfg) (s t : SlC) (wa ka va ca : Option Addr) (wc kc vc cc : Nat) (wa' ka' va' ca' : Option Addr) (wc' kc' vc' cc' : Nat) (w : World) (g0 : (c.tag == d.tag) = true) (g1 : (c.most == d.most) = true) (g2 : (c.seg == d.seg) = true) (g3 : (c.least == d.least) = true) (g4 : (c.den == d.den) = true) (g5 : (c.ll == d.ll) = true) (g6 : (c.rl == d.rl) = true) (g7 : (c.rh == d.rh) = false) :
    Calls Tryz.prog 16 #[.agg #[.int .u8 c.tag, .int .i64 c.most, .int .i64 c.seg, .int .i64 c.least, .int .i64 c.den, .int .i64 c.ll, .int .i64 c.rl, .int .i64 c.rh, .int .i64 c.lh, .int .i64 s.seg, .slice wa s.ws.length wc, .slice ka s.ks.length kc, .slice va s.vs.length vc, .slice ca s.cs.length cc, .int .u64 s.laid], .agg #[.int .u8 d.tag, .int .i64 d.most, .int .i64 d.seg, .int .i64 d.least, .int .i64 d.den, .int .i64 d.ll, .int .i64 d.rl, .int .i64 d.rh, .int .i64 d.lh, .int .i64 t.seg, .slice wa' t.ws.length wc', .slice ka' t.ks.length kc', .slice va' t.vs.length vc', .slice ca' t.cs.length cc', .int .u64 t.laid]] w (AnsB w (.bool false)) := by
  go_enter Tryz.func16, Tryz.ntmps16
  have hB0 : Below w.heap.size w ((w.alloc (.cells #[.int .u8 c.tag, .int .i64 c.most, .int .i64 c.seg, .int .i64 c.least, .int .i64 c.den, .int .i64 c.ll, .int .i64 c.rl, .int .i64 c.rh, .int .i64 c.lh, .int .i64 s.seg, .slice wa s.ws.length wc, .slice ka s.ks.length kc, .slice va s.vs.length vc, .slice ca s.cs.length cc, .int .u64 s.laid] 31)).alloc (.cells #[.int .u8 d.tag, .int .i64 d.most, .int .i64 d.seg, .int .i64 d.least, .int .i64 d.den, .int .i64 d.ll, .int .i64 d.rl, .int .i64 d.rh, .int .i64 d.lh, .int .i64 t.seg, .slice wa' t.ws.length wc', .slice ka' t.ks.length kc', .slice va' t.vs.length vc', .slice ca' t.cs.length cc', .int .u64 t.laid] 31)) := by (repeat (first | with_reducible (first | exact Below.refl _ _ | assumption | exact Hid.out (by assumption) | refine Below.alloc ?_ ?_ _ | refine Below.setCell ?_ ?_ _ | refine below_drewN ?_ _ | refine Below.drew ?_ | refine below_via (by assumption) ?_ ?_) | (first | (with_reducible assumption) | omega | (simp only [szW] <;> omega) | (simp <;> omega))))
  go_wp2
  go_ret
  exact ⟨rfl, hB0⟩
set_option maxRecDepth 100000 in
theorem SmPm_p8 (c d : Cfg) (s t : SlC) (wa ka va ca : Option Addr) (wc kc vc cc : Nat) (wa' ka' va' ca' : Option Addr) (wc' kc' vc' cc' : Nat) (w : World) (g0 : (c.tag == d.tag) = true) (g1 : (c.most == d.most) = true) (g2 : (c.seg == d.seg) = true) (g3 : (c.least == d.least) = true) (g4 : (c.den == d.den) = true) (g5 : (c.ll == d.ll) = true) (g6 : (c.rl == d.rl) = true) (g7 : (c.rh == d.rh) = true) (g8 : (c.lh == d.lh) = false) :
    Calls Tryz.prog 16 #[.agg #[.int .u8 c.tag, .int .i64 c.most, .int .i64 c.seg, .int .i64 c.least, .int .i64 c.den, .int .i64 c.ll, .int .i64 c.rl, .int .i64 c.rh, .int .i64 c.lh, .int .i64 s.seg, .slice wa s.ws.length wc, .slice ka s.ks.length kc, .slice va s.vs.length vc, .slice ca s.cs.length cc, .int .u64 s.laid], .agg #[.int .u8 d.tag, .int .i64 d.most, .int .i64 d.seg, .int .i64 d.least, .int .i64 d.den, .int .i64 d.ll, .int .i64 d.rl, .int .i64 d.rh, .int .i64 d.lh, .int .i64 t.seg, .slice wa' t.ws.length wc', .slice ka' t.ks.length kc', .slice va' t.vs.length vc', .slice ca' t.cs.length cc', .int .u64 t.laid]] w (AnsB w (.bool false)) := by
  go_enter Tryz.func16, Tryz.ntmps16
  have hB0 : Below w.heap.size w ((w.alloc (.cells #[.int .u8 c.tag, .int .i64 c.most, .int .i64 c.seg, .int .i64 c.least, .int .i64 c.den, .int .i64 c.ll, .int .i64 c.rl, .int .i64 c.rh, .int .i64 c.lh, .int .i64 s.seg, .slice wa s.ws.length wc, .slice ka s.ks.length kc, .slice va s.vs.length vc, .slice ca s.cs.length cc, .int .u64 s.laid] 31)).alloc (.cells #[.int .u8 d.tag, .int .i64 d.most, .int .i64 d.seg, .int .i64 d.least, .int .i64 d.den, .int .i64 d.ll, .int .i64 d.rl, .int .i64 d.rh, .int .i64 d.lh, .int .i64 t.seg, .slice wa' t.ws.length wc', .slice ka' t.ks.length kc', .slice va' t.vs.length vc', .slice ca' t.cs.length cc', .int .u64 t.laid] 31)) := by (repeat (first | with_reducible (first | exact Below.refl _ _ | assumption | exact Hid.out (by assumption) | refine Below.alloc ?_ ?_ _ | refine Below.setCell ?_ ?_ _ | refine below_drewN ?_ _ | refine Below.drew ?_ | refine below_via (by assumption) ?_ ?_) | (first | (with_reducible assumption) | omega | (simp only [szW] <;> omega) | (simp <;> omega))))
  go_wp2
  go_ret
  exact ⟨rfl, hB0⟩
set_option maxRecDepth 100000 in
theorem SmPm_p9 (c d : Cfg) (s t : SlC) (wa ka va ca : Option Addr) (wc kc vc cc : Nat) (wa' ka' va' ca' : Option Addr) (wc' kc' vc' cc' : Nat) (w : World) (g0 : (c.tag == d.tag) = true) (g1 : (c.most == d.most) = true) (g2 : (c.seg == d.seg) = true) (g3 : (c.least == d.least) = true) (g4 : (c.den == d.den) = true) (g5 : (c.ll == d.ll) = true) (g6 : (c.rl == d.rl) = true) (g7 : (c.rh == d.rh) = true) (g8 : (c.lh == d.lh) = true) (b : Bool) (SM : Hid (∀ W, Below w.heap.size w W → Calls Tryz.prog 36 #[.agg #[.int .i64 s.seg, .slice wa s.ws.length wc, .slice ka s.ks.length kc, .slice va s.vs.length vc, .slice ca s.cs.length cc, .int .u64 s.laid], .agg #[.int .i64 t.seg, .slice wa' t.ws.length wc', .slice ka' t.ks.length kc', .slice va' t.vs.length vc', .slice ca' t.cs.length cc', .int .u64 t.laid]] W (AnsB W (.bool b)))) :
    Calls Tryz.prog 16 #[.agg #[.int .u8 c.tag, .int .i64 c.most, .int .i64 c.seg, .int .i64 c.least, .int .i64 c.den, .int .i64 c.ll, .int .i64 c.rl, .int .i64 c.rh, .int .i64 c.lh, .int .i64 s.seg, .slice wa s.ws.length wc, .slice ka s.ks.length kc, .slice va s.vs.length vc, .slice ca s.cs.length cc, .int .u64 s.laid], .agg #[.int .u8 d.tag, .int .i64 d.most, .int .i64 d.seg, .int .i64 d.least, .int .i64 d.den, .int .i64 d.ll, .int .i64 d.rl, .int .i64 d.rh, .int .i64 d.lh, .int .i64 t.seg, .slice wa' t.ws.length wc', .slice ka' t.ks.length kc', .slice va' t.vs.length vc', .slice ca' t.cs.length cc', .int .u64 t.laid]] w (AnsB w (.bool b)) := by
  go_enter Tryz.func16, Tryz.ntmps16
  go_wp2_with fail
  refine (SM.out _ (by (repeat (first | with_reducible (first | exact Below.refl _ _ | assumption | exact Hid.out (by assumption) | refine Below.alloc ?_ ?_ _ | refine Below.setCell ?_ ?_ _ | refine below_drewN ?_ _ | refine Below.drew ?_ | refine below_via (by assumption) ?_ ?_) | (first | (with_reducible assumption) | omega | (simp only [szW] <;> omega) | (simp <;> omega)))))).mono ?_
  rintro e w1 ⟨rfl, hb1⟩
  have hz_w1 := hb1.size
  try simp only [World.size_alloc, World.size_setCell] at hz_w1
  have hh := bc15 hb1 (au15 (al15 (b := w.heap.size) (by simp)))
  obtain ⟨c_t0, c_t1, c_t2, c_t3, c_t4, c_t5, c_t6, c_t7, c_t8, c_t9, c_t10, c_t11, c_t12, c_t13, c_t14⟩ := hh
  have z_t := blt hb1 (auz (alz (b := w.heap.size) (by simp)))
  have hh := bc15 hb1 (al15 (b := w.heap.size + 1) (by simp))
  obtain ⟨c_o0, c_o1, c_o2, c_o3, c_o4, c_o5, c_o6, c_o7, c_o8, c_o9, c_o10, c_o11, c_o12, c_o13, c_o14⟩ := hh
  have z_o := blt hb1 (alz (b := w.heap.size + 1) (by simp))
  have hB1 : Below w.heap.size w w1 := by (repeat (first | with_reducible (first | exact Below.refl _ _ | assumption | exact Hid.out (by assumption) | refine Below.alloc ?_ ?_ _ | refine Below.setCell ?_ ?_ _ | refine below_drewN ?_ _ | refine Below.drew ?_ | refine below_via (by assumption) ?_ ?_) | (first | (with_reducible assumption) | omega | (simp only [szW] <;> omega) | (simp <;> omega))))
  go_wp2
  go_ret
  exact ⟨rfl, hB1⟩
theorem SmPm_ok (c d : Cfg) (s t : SlC) (a a' : SlA) (w : World) (hin : SlIn w s a) (hin' : SlIn w t a') (hl1 : s.ws.length ≤ 1000000000) (hl2 : s.ks.length ≤ 1000000000) (hl3 : s.vs.length ≤ 1000000000) (hl4 : s.cs.length ≤ 1000000000) :
    Calls Tryz.prog 16 #[pmV c s a, pmV d t a'] w (AnsB w (.bool (pmB c s d t))) := by
  unfold pmB cfB
  by_cases h0 : c.tag = d.tag
  case neg =>
    have g0 : (c.tag == d.tag) = false := by simpa using h0
    simp only [decide_eq_false h0, Bool.false_and]
    exact SmPm_p0 c d s t a.wa a.ka a.va a.ca a.wc a.kc a.vc a.cc a'.wa a'.ka a'.va a'.ca a'.wc a'.kc a'.vc a'.cc w  g0
  have g0 : (c.tag == d.tag) = true := by simpa using h0
  rw [decide_eq_true h0, Bool.true_and]
  by_cases h1 : c.most = d.most
  case neg =>
    have g1 : (c.most == d.most) = false := by simpa using h1
    simp only [decide_eq_false h1, Bool.false_and]
    exact SmPm_p1 c d s t a.wa a.ka a.va a.ca a.wc a.kc a.vc a.cc a'.wa a'.ka a'.va a'.ca a'.wc a'.kc a'.vc a'.cc w g0 g1
  have g1 : (c.most == d.most) = true := by simpa using h1
  rw [decide_eq_true h1, Bool.true_and]
  by_cases h2 : c.seg = d.seg
  case neg =>
    have g2 : (c.seg == d.seg) = false := by simpa using h2
    simp only [decide_eq_false h2, Bool.false_and]
    exact SmPm_p2 c d s t a.wa a.ka a.va a.ca a.wc a.kc a.vc a.cc a'.wa a'.ka a'.va a'.ca a'.wc a'.kc a'.vc a'.cc w g0 g1 g2
  have g2 : (c.seg == d.seg) = true := by simpa using h2
  rw [decide_eq_true h2, Bool.true_and]
  by_cases h3 : c.least = d.least
  case neg =>
    have g3 : (c.least == d.least) = false := by simpa using h3
    simp only [decide_eq_false h3, Bool.false_and]
    exact SmPm_p3 c d s t a.wa a.ka a.va a.ca a.wc a.kc a.vc a.cc a'.wa a'.ka a'.va a'.ca a'.wc a'.kc a'.vc a'.cc w g0 g1 g2 g3
  have g3 : (c.least == d.least) = true := by simpa using h3
  rw [decide_eq_true h3, Bool.true_and]
  by_cases h4 : c.den = d.den
  case neg =>
    have g4 : (c.den == d.den) = false := by simpa using h4
    simp only [decide_eq_false h4, Bool.false_and]
    exact SmPm_p4 c d s t a.wa a.ka a.va a.ca a.wc a.kc a.vc a.cc a'.wa a'.ka a'.va a'.ca a'.wc a'.kc a'.vc a'.cc w g0 g1 g2 g3 g4
  have g4 : (c.den == d.den) = true := by simpa using h4
  rw [decide_eq_true h4, Bool.true_and]
  by_cases h5 : c.ll = d.ll
  case neg =>
    have g5 : (c.ll == d.ll) = false := by simpa using h5
    simp only [decide_eq_false h5, Bool.false_and]
    exact SmPm_p5 c d s t a.wa a.ka a.va a.ca a.wc a.kc a.vc a.cc a'.wa a'.ka a'.va a'.ca a'.wc a'.kc a'.vc a'.cc w g0 g1 g2 g3 g4 g5
  have g5 : (c.ll == d.ll) = true := by simpa using h5
  rw [decide_eq_true h5, Bool.true_and]
  by_cases h6 : c.rl = d.rl
  case neg =>
    have g6 : (c.rl == d.rl) = false := by simpa using h6
    simp only [decide_eq_false h6, Bool.false_and]
    exact SmPm_p6 c d s t a.wa a.ka a.va a.ca a.wc a.kc a.vc a.cc a'.wa a'.ka a'.va a'.ca a'.wc a'.kc a'.vc a'.cc w g0 g1 g2 g3 g4 g5 g6
  have g6 : (c.rl == d.rl) = true := by simpa using h6
  rw [decide_eq_true h6, Bool.true_and]
  by_cases h7 : c.rh = d.rh
  case neg =>
    have g7 : (c.rh == d.rh) = false := by simpa using h7
    simp only [decide_eq_false h7, Bool.false_and]
    exact SmPm_p7 c d s t a.wa a.ka a.va a.ca a.wc a.kc a.vc a.cc a'.wa a'.ka a'.va a'.ca a'.wc a'.kc a'.vc a'.cc w g0 g1 g2 g3 g4 g5 g6 g7
  have g7 : (c.rh == d.rh) = true := by simpa using h7
  rw [decide_eq_true h7, Bool.true_and]
  by_cases h8 : c.lh = d.lh
  case neg =>
    have g8 : (c.lh == d.lh) = false := by simpa using h8
    simp only [decide_eq_false h8, Bool.false_and]
    exact SmPm_p8 c d s t a.wa a.ka a.va a.ca a.wc a.kc a.vc a.cc a'.wa a'.ka a'.va a'.ca a'.wc a'.kc a'.vc a'.cc w g0 g1 g2 g3 g4 g5 g6 g7 g8
  have g8 : (c.lh == d.lh) = true := by simpa using h8
  rw [decide_eq_true h8, Bool.true_and]
  exact SmPm_p9 c d s t a.wa a.ka a.va a.ca a.wc a.kc a.vc a.cc a'.wa a'.ka a'.va a'.ca a'.wc a'.kc a'.vc a'.cc w g0 g1 g2 g3 g4 g5 g6 g7 g8 (sameB s t) (Lib.hid fun W hb => SmSl_ok s t a a' W (hin.below hb) (hin'.below hb) hl1 hl2 hl3 hl4)
end
end Go.Proofs.YtmnlagmmbfjbeaaGreatDoor

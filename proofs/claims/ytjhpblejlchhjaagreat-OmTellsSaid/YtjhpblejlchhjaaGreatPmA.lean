/- Merged: PmCk, PmSl, PmSm. -/
import Derived.Test.YtjhpblejlchhjaaGreatGapCkA
import Derived.Test.YtjhpblejlchhjaaGreatSlTw
import Derived.Test.YtjhpblejlchhjaaGreatRef09A
import Derived.Test.YtjhpblejlchhjaaGreatSeekAll
import Derived.Test.YtjhpblejlchhjaaGreatIdxM
namespace Go.Proofs.YtjhpblejlchhjaaGreat
set_option maxRecDepth 100000
set_option maxHeartbeats 4000000
set_option linter.unusedVariables false
set_option linter.unusedSimpArgs false
section
open Go.RowKit

end

section
open Go.RowKit

theorem Equal_u64 (a b : Option Addr) (ca cb : Nat) (xs ys : List Int) (w : World) (ha : IsRow .u64 w a xs) (hb : IsRow .u64 w b ys) (hm : xs.length ≤ 1000000000) :
    Calls Tryz.prog 95 #[.slice a xs.length ca, .slice b ys.length cb] w fun e w' => e = .returned (.bool (decide (xs = ys))) ∧ ∃ n, w' = w.drewN n := by
  by_cases hlen : xs.length = ys.length
  · have hl1 : ((xs.length : Int) != (ys.length : Int)) = false := by simp [hlen]
    have HL := Lib.hid hlen
    clear hlen
    have HA := Lib.hid ha
    have HB := Lib.hid hb
    clear ha hb
    go_enter Tryz.func95, Tryz.ntmps95
    go_wp2
    go_loopg [13] xs.length (fun g i wr => ∃ (k n : Nat), k + g = xs.length ∧ i = .int .i64 k ∧ wr = w.drewN n ∧ xs.take k = ys.take k)
    case atStart => exact ⟨0, 0, by omega, rfl, rfl, by simp⟩
    case round =>
      obtain ⟨k, n, hk, rfl, rfl, ht⟩ := hrel
      have HT := Lib.hid ht
      clear ht
      by_cases hlt : k < xs.length
      · have hlt2 : k < ys.length := by rw [← HL.out]; exact hlt
        obtain ⟨b1, o1, x, rfl, hx, h1, _⟩ := HA.out.get hlt
        obtain ⟨b2, o2, y, rfl, hy, h2, _⟩ := HB.out.get hlt2
        by_cases heq : x = y
        · have he : (x != y) = false := by simpa using heq
          have HE := Lib.hid heq
          clear heq
          go_wp2
          go_quiet (fail)
          go_wp2
          go_roundg (gk - 1)
          case measure => omega
          case rel => exact ⟨k + 1, n + nq, by omega, by go_num, by simp, row_take_succ HL.out hlt HT.out (hx.out.trans (HE.out.trans hy.out.symm))⟩
        · have he : (x != y) = true := by simpa using heq
          have HE := Lib.hid heq
          clear heq
          go_wp2
          go_quiet (fail)
          go_wp2
          go_ret
          exact ⟨by have : xs ≠ ys := fun h => HE.out (by rw [← hx.out, ← hy.out, h])
                    simp [this], _, World.drewN_drewN _ _ _⟩
      · go_wp2
        go_ret
        have hk2 : k = xs.length := by omega
        have hxy : xs = ys := by
          have := HT.out
          rw [hk2, List.take_length, HL.out, List.take_length] at this
          exact this
        exact ⟨by simp [hxy], _, rfl⟩
  · have hl1 : ((xs.length : Int) != (ys.length : Int)) = true := by simp; omega
    have hxy : xs ≠ ys := fun h => hlen (by rw [h])
    have HX := Lib.hid hxy
    clear ha hb hlen hxy
    go_enter Tryz.func95, Tryz.ntmps95
    go_wp2
    go_ret
    exact ⟨by simp [HX.out], 0, rfl⟩

theorem occSame_ok (a b : Option Addr) (ca cb : Nat) (xs ys : List Int) (w : World) (ha : IsRow .u64 w a xs) (hb : IsRow .u64 w b ys) (hm : xs.length ≤ 1000000000) :
    Calls Tryz.prog 65 #[.slice a xs.length ca, .slice b ys.length cb] w (AnsB w (.bool (decide (xs = ys)))) := by
  have EQ := Lib.hid (ans_drewN (Equal_u64 a b ca cb xs ys w ha hb hm))
  generalize decide (xs = ys) = z at *
  clear ha hb hm
  go_enter Tryz.func65, Tryz.ntmps65
  go_wp2_with fail
  refine (EQ.out).mono ?_
  rintro e w1 ⟨rfl, hb1⟩
  have hz_w1 := hb1.size
  try simp only [World.size_alloc, World.size_setCell] at hz_w1
  go_wp2
  go_ret
  exact ⟨rfl, hb1⟩
def sameB (s t : SlC) : Bool := decide (s.seg = t.seg) && (decide (s.laid = t.laid) && (decide (s.ws = t.ws) && (decide (s.ks = t.ks) && (decide (s.vs = t.vs) && decide (s.cs = t.cs)))))
theorem sameB_refl (s : SlC) : sameB s s = true := by simp [sameB]
theorem Sm04_p0 (sg sg2 ld ld2 : Int) (wa ka va ca wa' ka' va' ca' : Option Addr) (wc kc vc cc wc' kc' vc' cc' lw lk lv lc lw' lk' lv' lc' : Nat) (w : World) (g1 : (sg == sg2) = false) :
    Calls Tryz.prog 41 #[.agg #[.int .i64 sg, .slice wa lw wc, .slice ka lk kc, .slice va lv vc, .slice ca lc cc, .int .u64 ld], .agg #[.int .i64 sg2, .slice wa' lw' wc', .slice ka' lk' kc', .slice va' lv' vc', .slice ca' lc' cc', .int .u64 ld2]] w (AnsB w (.bool false)) := by
  go_enter Tryz.func41, Tryz.ntmps41
  have hB0 : Below w.heap.size w ((w.alloc (.cells #[.int .i64 sg, .slice wa lw wc, .slice ka lk kc, .slice va lv vc, .slice ca lc cc, .int .u64 ld] 29)).alloc (.cells #[.int .i64 sg2, .slice wa' lw' wc', .slice ka' lk' kc', .slice va' lv' vc', .slice ca' lc' cc', .int .u64 ld2] 29)) := by (exact xbel)
  go_wp2
  go_ret
  exact ⟨rfl, hB0⟩
theorem Sm04_p1 (sg sg2 ld ld2 : Int) (wa ka va ca wa' ka' va' ca' : Option Addr) (wc kc vc cc wc' kc' vc' cc' lw lk lv lc lw' lk' lv' lc' : Nat) (w : World) (g1 : (sg == sg2) = true) (g2 : (ld == ld2) = false) :
    Calls Tryz.prog 41 #[.agg #[.int .i64 sg, .slice wa lw wc, .slice ka lk kc, .slice va lv vc, .slice ca lc cc, .int .u64 ld], .agg #[.int .i64 sg2, .slice wa' lw' wc', .slice ka' lk' kc', .slice va' lv' vc', .slice ca' lc' cc', .int .u64 ld2]] w (AnsB w (.bool false)) := by
  go_enter Tryz.func41, Tryz.ntmps41
  have hB0 : Below w.heap.size w ((w.alloc (.cells #[.int .i64 sg, .slice wa lw wc, .slice ka lk kc, .slice va lv vc, .slice ca lc cc, .int .u64 ld] 29)).alloc (.cells #[.int .i64 sg2, .slice wa' lw' wc', .slice ka' lk' kc', .slice va' lv' vc', .slice ca' lc' cc', .int .u64 ld2] 29)) := by (exact xbel)
  go_wp2
  go_ret
  exact ⟨rfl, hB0⟩
theorem Sm04_p2 (sg sg2 ld ld2 : Int) (wa ka va ca wa' ka' va' ca' : Option Addr) (wc kc vc cc wc' kc' vc' cc' lw lk lv lc lw' lk' lv' lc' : Nat) (w : World) (g1 : (sg == sg2) = true) (g2 : (ld == ld2) = true) (HW : Hid (∀ W, Below w.heap.size w W → Calls Tryz.prog 68 #[.slice wa lw wc, .slice wa' lw' wc'] W (AnsB W (.bool false)))) :
    Calls Tryz.prog 41 #[.agg #[.int .i64 sg, .slice wa lw wc, .slice ka lk kc, .slice va lv vc, .slice ca lc cc, .int .u64 ld], .agg #[.int .i64 sg2, .slice wa' lw' wc', .slice ka' lk' kc', .slice va' lv' vc', .slice ca' lc' cc', .int .u64 ld2]] w (AnsB w (.bool false)) := by
  go_enter Tryz.func41, Tryz.ntmps41
  go_wp2_with fail
  refine (HW.out _ (by (exact xbel))).mono ?_
  rintro e w1 ⟨rfl, hb1⟩
  have hz_w1 := hb1.size
  try simp only [World.size_alloc, World.size_setCell] at hz_w1
  have hh := bc6 hb1 (au6 (al6 (b := w.heap.size) (by simp)))
  obtain ⟨c_t0, c_t1, c_t2, c_t3, c_t4, c_t5⟩ := hh
  have z_t := blt hb1 (auz (alz (b := w.heap.size) (by simp)))
  have hh := bc6 hb1 (al6 (b := w.heap.size + 1) (by simp))
  obtain ⟨c_o0, c_o1, c_o2, c_o3, c_o4, c_o5⟩ := hh
  have z_o := blt hb1 (alz (b := w.heap.size + 1) (by simp))
  have hB1 : Below w.heap.size w w1 := by (exact xbel)
  go_wp2
  go_ret
  exact ⟨rfl, hB1⟩
theorem Sm04_p3 (sg sg2 ld ld2 : Int) (wa ka va ca wa' ka' va' ca' : Option Addr) (wc kc vc cc wc' kc' vc' cc' lw lk lv lc lw' lk' lv' lc' : Nat) (w : World) (g1 : (sg == sg2) = true) (g2 : (ld == ld2) = true) (HW : Hid (∀ W, Below w.heap.size w W → Calls Tryz.prog 68 #[.slice wa lw wc, .slice wa' lw' wc'] W (AnsB W (.bool true)))) (HK : Hid (∀ W, Below w.heap.size w W → Calls Tryz.prog 69 #[.slice ka lk kc, .slice ka' lk' kc'] W (AnsB W (.bool false)))) :
    Calls Tryz.prog 41 #[.agg #[.int .i64 sg, .slice wa lw wc, .slice ka lk kc, .slice va lv vc, .slice ca lc cc, .int .u64 ld], .agg #[.int .i64 sg2, .slice wa' lw' wc', .slice ka' lk' kc', .slice va' lv' vc', .slice ca' lc' cc', .int .u64 ld2]] w (AnsB w (.bool false)) := by
  go_enter Tryz.func41, Tryz.ntmps41
  go_wp2_with fail
  refine (HW.out _ (by (exact xbel))).mono ?_
  rintro e w1 ⟨rfl, hb1⟩
  have hz_w1 := hb1.size
  try simp only [World.size_alloc, World.size_setCell] at hz_w1
  have hh := bc6 hb1 (au6 (al6 (b := w.heap.size) (by simp)))
  obtain ⟨c_t0, c_t1, c_t2, c_t3, c_t4, c_t5⟩ := hh
  have z_t := blt hb1 (auz (alz (b := w.heap.size) (by simp)))
  have hh := bc6 hb1 (al6 (b := w.heap.size + 1) (by simp))
  obtain ⟨c_o0, c_o1, c_o2, c_o3, c_o4, c_o5⟩ := hh
  have z_o := blt hb1 (alz (b := w.heap.size + 1) (by simp))
  have hB1 : Below w.heap.size w w1 := by (exact xbel)
  go_wp2_with fail
  refine (HK.out _ hB1).mono ?_
  rintro e w2 ⟨rfl, hb2⟩
  have hz_w2 := hb2.size
  try simp only [World.size_alloc, World.size_setCell] at hz_w2
  have hh := bc6 hb2 ⟨c_t0, c_t1, c_t2, c_t3, c_t4, c_t5⟩
  clear c_t0 c_t1 c_t2 c_t3 c_t4 c_t5
  obtain ⟨c_t0, c_t1, c_t2, c_t3, c_t4, c_t5⟩ := hh
  replace z_t := blt hb2 z_t
  have hh := bc6 hb2 ⟨c_o0, c_o1, c_o2, c_o3, c_o4, c_o5⟩
  clear c_o0 c_o1 c_o2 c_o3 c_o4 c_o5
  obtain ⟨c_o0, c_o1, c_o2, c_o3, c_o4, c_o5⟩ := hh
  replace z_o := blt hb2 z_o
  have hB2 : Below w.heap.size w w2 := by (exact xbel)
  go_wp2
  go_ret
  exact ⟨rfl, hB2⟩
theorem Sm04_p4 (sg sg2 ld ld2 : Int) (wa ka va ca wa' ka' va' ca' : Option Addr) (wc kc vc cc wc' kc' vc' cc' lw lk lv lc lw' lk' lv' lc' : Nat) (w : World) (g1 : (sg == sg2) = true) (g2 : (ld == ld2) = true) (HW : Hid (∀ W, Below w.heap.size w W → Calls Tryz.prog 68 #[.slice wa lw wc, .slice wa' lw' wc'] W (AnsB W (.bool true)))) (HK : Hid (∀ W, Below w.heap.size w W → Calls Tryz.prog 69 #[.slice ka lk kc, .slice ka' lk' kc'] W (AnsB W (.bool true)))) (HV : Hid (∀ W, Below w.heap.size w W → Calls Tryz.prog 69 #[.slice va lv vc, .slice va' lv' vc'] W (AnsB W (.bool false)))) :
    Calls Tryz.prog 41 #[.agg #[.int .i64 sg, .slice wa lw wc, .slice ka lk kc, .slice va lv vc, .slice ca lc cc, .int .u64 ld], .agg #[.int .i64 sg2, .slice wa' lw' wc', .slice ka' lk' kc', .slice va' lv' vc', .slice ca' lc' cc', .int .u64 ld2]] w (AnsB w (.bool false)) := by
  go_enter Tryz.func41, Tryz.ntmps41
  go_wp2_with fail
  refine (HW.out _ (by (exact xbel))).mono ?_
  rintro e w1 ⟨rfl, hb1⟩
  have hz_w1 := hb1.size
  try simp only [World.size_alloc, World.size_setCell] at hz_w1
  have hh := bc6 hb1 (au6 (al6 (b := w.heap.size) (by simp)))
  obtain ⟨c_t0, c_t1, c_t2, c_t3, c_t4, c_t5⟩ := hh
  have z_t := blt hb1 (auz (alz (b := w.heap.size) (by simp)))
  have hh := bc6 hb1 (al6 (b := w.heap.size + 1) (by simp))
  obtain ⟨c_o0, c_o1, c_o2, c_o3, c_o4, c_o5⟩ := hh
  have z_o := blt hb1 (alz (b := w.heap.size + 1) (by simp))
  have hB1 : Below w.heap.size w w1 := by (exact xbel)
  go_wp2_with fail
  refine (HK.out _ hB1).mono ?_
  rintro e w2 ⟨rfl, hb2⟩
  have hz_w2 := hb2.size
  try simp only [World.size_alloc, World.size_setCell] at hz_w2
  have hh := bc6 hb2 ⟨c_t0, c_t1, c_t2, c_t3, c_t4, c_t5⟩
  clear c_t0 c_t1 c_t2 c_t3 c_t4 c_t5
  obtain ⟨c_t0, c_t1, c_t2, c_t3, c_t4, c_t5⟩ := hh
  replace z_t := blt hb2 z_t
  have hh := bc6 hb2 ⟨c_o0, c_o1, c_o2, c_o3, c_o4, c_o5⟩
  clear c_o0 c_o1 c_o2 c_o3 c_o4 c_o5
  obtain ⟨c_o0, c_o1, c_o2, c_o3, c_o4, c_o5⟩ := hh
  replace z_o := blt hb2 z_o
  have hB2 : Below w.heap.size w w2 := by (exact xbel)
  go_wp2_with fail
  refine (HV.out _ hB2).mono ?_
  rintro e w3 ⟨rfl, hb3⟩
  have hz_w3 := hb3.size
  try simp only [World.size_alloc, World.size_setCell] at hz_w3
  have hh := bc6 hb3 ⟨c_t0, c_t1, c_t2, c_t3, c_t4, c_t5⟩
  clear c_t0 c_t1 c_t2 c_t3 c_t4 c_t5
  obtain ⟨c_t0, c_t1, c_t2, c_t3, c_t4, c_t5⟩ := hh
  replace z_t := blt hb3 z_t
  have hh := bc6 hb3 ⟨c_o0, c_o1, c_o2, c_o3, c_o4, c_o5⟩
  clear c_o0 c_o1 c_o2 c_o3 c_o4 c_o5
  obtain ⟨c_o0, c_o1, c_o2, c_o3, c_o4, c_o5⟩ := hh
  replace z_o := blt hb3 z_o
  have hB3 : Below w.heap.size w w3 := by (exact xbel)
  go_wp2
  go_ret
  exact ⟨rfl, hB3⟩
theorem Sm04_p5 (sg sg2 ld ld2 : Int) (wa ka va ca wa' ka' va' ca' : Option Addr) (wc kc vc cc wc' kc' vc' cc' lw lk lv lc lw' lk' lv' lc' : Nat) (w : World) (g1 : (sg == sg2) = true) (g2 : (ld == ld2) = true) (HW : Hid (∀ W, Below w.heap.size w W → Calls Tryz.prog 68 #[.slice wa lw wc, .slice wa' lw' wc'] W (AnsB W (.bool true)))) (HK : Hid (∀ W, Below w.heap.size w W → Calls Tryz.prog 69 #[.slice ka lk kc, .slice ka' lk' kc'] W (AnsB W (.bool true)))) (HV : Hid (∀ W, Below w.heap.size w W → Calls Tryz.prog 69 #[.slice va lv vc, .slice va' lv' vc'] W (AnsB W (.bool true)))) (HN : Hid (∀ W, Below w.heap.size w W → Calls Tryz.prog 70 #[.slice ca lc cc, .slice ca' lc' cc'] W (AnsB W (.bool false)))) :
    Calls Tryz.prog 41 #[.agg #[.int .i64 sg, .slice wa lw wc, .slice ka lk kc, .slice va lv vc, .slice ca lc cc, .int .u64 ld], .agg #[.int .i64 sg2, .slice wa' lw' wc', .slice ka' lk' kc', .slice va' lv' vc', .slice ca' lc' cc', .int .u64 ld2]] w (AnsB w (.bool false)) := by
  go_enter Tryz.func41, Tryz.ntmps41
  go_wp2_with fail
  refine (HW.out _ (by (exact xbel))).mono ?_
  rintro e w1 ⟨rfl, hb1⟩
  have hz_w1 := hb1.size
  try simp only [World.size_alloc, World.size_setCell] at hz_w1
  have hh := bc6 hb1 (au6 (al6 (b := w.heap.size) (by simp)))
  obtain ⟨c_t0, c_t1, c_t2, c_t3, c_t4, c_t5⟩ := hh
  have z_t := blt hb1 (auz (alz (b := w.heap.size) (by simp)))
  have hh := bc6 hb1 (al6 (b := w.heap.size + 1) (by simp))
  obtain ⟨c_o0, c_o1, c_o2, c_o3, c_o4, c_o5⟩ := hh
  have z_o := blt hb1 (alz (b := w.heap.size + 1) (by simp))
  have hB1 : Below w.heap.size w w1 := by (exact xbel)
  go_wp2_with fail
  refine (HK.out _ hB1).mono ?_
  rintro e w2 ⟨rfl, hb2⟩
  have hz_w2 := hb2.size
  try simp only [World.size_alloc, World.size_setCell] at hz_w2
  have hh := bc6 hb2 ⟨c_t0, c_t1, c_t2, c_t3, c_t4, c_t5⟩
  clear c_t0 c_t1 c_t2 c_t3 c_t4 c_t5
  obtain ⟨c_t0, c_t1, c_t2, c_t3, c_t4, c_t5⟩ := hh
  replace z_t := blt hb2 z_t
  have hh := bc6 hb2 ⟨c_o0, c_o1, c_o2, c_o3, c_o4, c_o5⟩
  clear c_o0 c_o1 c_o2 c_o3 c_o4 c_o5
  obtain ⟨c_o0, c_o1, c_o2, c_o3, c_o4, c_o5⟩ := hh
  replace z_o := blt hb2 z_o
  have hB2 : Below w.heap.size w w2 := by (exact xbel)
  go_wp2_with fail
  refine (HV.out _ hB2).mono ?_
  rintro e w3 ⟨rfl, hb3⟩
  have hz_w3 := hb3.size
  try simp only [World.size_alloc, World.size_setCell] at hz_w3
  have hh := bc6 hb3 ⟨c_t0, c_t1, c_t2, c_t3, c_t4, c_t5⟩
  clear c_t0 c_t1 c_t2 c_t3 c_t4 c_t5
  obtain ⟨c_t0, c_t1, c_t2, c_t3, c_t4, c_t5⟩ := hh
  replace z_t := blt hb3 z_t
  have hh := bc6 hb3 ⟨c_o0, c_o1, c_o2, c_o3, c_o4, c_o5⟩
  clear c_o0 c_o1 c_o2 c_o3 c_o4 c_o5
  obtain ⟨c_o0, c_o1, c_o2, c_o3, c_o4, c_o5⟩ := hh
  replace z_o := blt hb3 z_o
  have hB3 : Below w.heap.size w w3 := by (exact xbel)
  go_wp2_with fail
  refine (HN.out _ hB3).mono ?_
  rintro e w4 ⟨rfl, hb4⟩
  have hz_w4 := hb4.size
  try simp only [World.size_alloc, World.size_setCell] at hz_w4
  have hh := bc6 hb4 ⟨c_t0, c_t1, c_t2, c_t3, c_t4, c_t5⟩
  clear c_t0 c_t1 c_t2 c_t3 c_t4 c_t5
  obtain ⟨c_t0, c_t1, c_t2, c_t3, c_t4, c_t5⟩ := hh
  replace z_t := blt hb4 z_t
  have hh := bc6 hb4 ⟨c_o0, c_o1, c_o2, c_o3, c_o4, c_o5⟩
  clear c_o0 c_o1 c_o2 c_o3 c_o4 c_o5
  obtain ⟨c_o0, c_o1, c_o2, c_o3, c_o4, c_o5⟩ := hh
  replace z_o := blt hb4 z_o
  have hB4 : Below w.heap.size w w4 := by (exact xbel)
  go_wp2
  go_ret
  exact ⟨rfl, hB4⟩
theorem Sm04_p6 (sg sg2 ld ld2 : Int) (wa ka va ca wa' ka' va' ca' : Option Addr) (wc kc vc cc wc' kc' vc' cc' lw lk lv lc lw' lk' lv' lc' : Nat) (w : World) (g1 : (sg == sg2) = true) (g2 : (ld == ld2) = true) (HW : Hid (∀ W, Below w.heap.size w W → Calls Tryz.prog 68 #[.slice wa lw wc, .slice wa' lw' wc'] W (AnsB W (.bool true)))) (HK : Hid (∀ W, Below w.heap.size w W → Calls Tryz.prog 69 #[.slice ka lk kc, .slice ka' lk' kc'] W (AnsB W (.bool true)))) (HV : Hid (∀ W, Below w.heap.size w W → Calls Tryz.prog 69 #[.slice va lv vc, .slice va' lv' vc'] W (AnsB W (.bool true)))) (HN : Hid (∀ W, Below w.heap.size w W → Calls Tryz.prog 70 #[.slice ca lc cc, .slice ca' lc' cc'] W (AnsB W (.bool true)))) :
    Calls Tryz.prog 41 #[.agg #[.int .i64 sg, .slice wa lw wc, .slice ka lk kc, .slice va lv vc, .slice ca lc cc, .int .u64 ld], .agg #[.int .i64 sg2, .slice wa' lw' wc', .slice ka' lk' kc', .slice va' lv' vc', .slice ca' lc' cc', .int .u64 ld2]] w (AnsB w (.bool true)) := by
  go_enter Tryz.func41, Tryz.ntmps41
  go_wp2_with fail
  refine (HW.out _ (by (exact xbel))).mono ?_
  rintro e w1 ⟨rfl, hb1⟩
  have hz_w1 := hb1.size
  try simp only [World.size_alloc, World.size_setCell] at hz_w1
  have hh := bc6 hb1 (au6 (al6 (b := w.heap.size) (by simp)))
  obtain ⟨c_t0, c_t1, c_t2, c_t3, c_t4, c_t5⟩ := hh
  have z_t := blt hb1 (auz (alz (b := w.heap.size) (by simp)))
  have hh := bc6 hb1 (al6 (b := w.heap.size + 1) (by simp))
  obtain ⟨c_o0, c_o1, c_o2, c_o3, c_o4, c_o5⟩ := hh
  have z_o := blt hb1 (alz (b := w.heap.size + 1) (by simp))
  have hB1 : Below w.heap.size w w1 := by (exact xbel)
  go_wp2_with fail
  refine (HK.out _ hB1).mono ?_
  rintro e w2 ⟨rfl, hb2⟩
  have hz_w2 := hb2.size
  try simp only [World.size_alloc, World.size_setCell] at hz_w2
  have hh := bc6 hb2 ⟨c_t0, c_t1, c_t2, c_t3, c_t4, c_t5⟩
  clear c_t0 c_t1 c_t2 c_t3 c_t4 c_t5
  obtain ⟨c_t0, c_t1, c_t2, c_t3, c_t4, c_t5⟩ := hh
  replace z_t := blt hb2 z_t
  have hh := bc6 hb2 ⟨c_o0, c_o1, c_o2, c_o3, c_o4, c_o5⟩
  clear c_o0 c_o1 c_o2 c_o3 c_o4 c_o5
  obtain ⟨c_o0, c_o1, c_o2, c_o3, c_o4, c_o5⟩ := hh
  replace z_o := blt hb2 z_o
  have hB2 : Below w.heap.size w w2 := by (exact xbel)
  go_wp2_with fail
  refine (HV.out _ hB2).mono ?_
  rintro e w3 ⟨rfl, hb3⟩
  have hz_w3 := hb3.size
  try simp only [World.size_alloc, World.size_setCell] at hz_w3
  have hh := bc6 hb3 ⟨c_t0, c_t1, c_t2, c_t3, c_t4, c_t5⟩
  clear c_t0 c_t1 c_t2 c_t3 c_t4 c_t5
  obtain ⟨c_t0, c_t1, c_t2, c_t3, c_t4, c_t5⟩ := hh
  replace z_t := blt hb3 z_t
  have hh := bc6 hb3 ⟨c_o0, c_o1, c_o2, c_o3, c_o4, c_o5⟩
  clear c_o0 c_o1 c_o2 c_o3 c_o4 c_o5
  obtain ⟨c_o0, c_o1, c_o2, c_o3, c_o4, c_o5⟩ := hh
  replace z_o := blt hb3 z_o
  have hB3 : Below w.heap.size w w3 := by (exact xbel)
  go_wp2_with fail
  refine (HN.out _ hB3).mono ?_
  rintro e w4 ⟨rfl, hb4⟩
  have hz_w4 := hb4.size
  try simp only [World.size_alloc, World.size_setCell] at hz_w4
  have hh := bc6 hb4 ⟨c_t0, c_t1, c_t2, c_t3, c_t4, c_t5⟩
  clear c_t0 c_t1 c_t2 c_t3 c_t4 c_t5
  obtain ⟨c_t0, c_t1, c_t2, c_t3, c_t4, c_t5⟩ := hh
  replace z_t := blt hb4 z_t
  have hh := bc6 hb4 ⟨c_o0, c_o1, c_o2, c_o3, c_o4, c_o5⟩
  clear c_o0 c_o1 c_o2 c_o3 c_o4 c_o5
  obtain ⟨c_o0, c_o1, c_o2, c_o3, c_o4, c_o5⟩ := hh
  replace z_o := blt hb4 z_o
  have hB4 : Below w.heap.size w w4 := by (exact xbel)
  go_wp2
  go_ret
  exact ⟨rfl, hB4⟩
theorem Sm04_ok (s t : SlC) (a a' : SlA) (w : World) (hin : SlIn w s a) (hin' : SlIn w t a') (hl1 : s.ws.length ≤ 1000000000) (hl2 : s.ks.length ≤ 1000000000) (hl3 : s.vs.length ≤ 1000000000) (hl4 : s.cs.length ≤ 1000000000) :
    Calls Tryz.prog 41 #[slV s a, slV t a'] w (AnsB w (.bool (sameB s t))) := by
  have HW := fun (W : World) (hb : Below w.heap.size w W) => ans_drewN (SameWords_ok a.wa a'.wa a.wc a'.wc s.ws t.ws W (hin.w.below hb) (hin'.w.below hb) hl1)
  have HK := fun (W : World) (hb : Below w.heap.size w W) => ans_drewN (SameKeys_ok a.ka a'.ka a.kc a'.kc s.ks t.ks W (hin.k.below hb) (hin'.k.below hb) hl2)
  have HV := fun (W : World) (hb : Below w.heap.size w W) => ans_drewN (SameKeys_ok a.va a'.va a.vc a'.vc s.vs t.vs W (hin.v.below hb) (hin'.v.below hb) hl3)
  have HN := fun (W : World) (hb : Below w.heap.size w W) => ans_drewN (SameNums_ok a.ca a'.ca a.cc a'.cc s.cs t.cs W (hin.n.below hb) (hin'.n.below hb) hl4)
  unfold sameB
  by_cases h1 : s.seg = t.seg
  · have g1 : (s.seg == t.seg) = true := by simpa using h1
    rw [decide_eq_true h1, Bool.true_and]
    by_cases h2 : s.laid = t.laid
    · have g2 : (s.laid == t.laid) = true := by simpa using h2
      rw [decide_eq_true h2, Bool.true_and]
      cases h3 : decide (s.ws = t.ws) with
      | false => rw [h3] at HW; exact Sm04_p2 s.seg t.seg s.laid t.laid a.wa a.ka a.va a.ca a'.wa a'.ka a'.va a'.ca a.wc a.kc a.vc a.cc a'.wc a'.kc a'.vc a'.cc s.ws.length s.ks.length s.vs.length s.cs.length t.ws.length t.ks.length t.vs.length t.cs.length w g1 g2 (Lib.hid HW)
      | true =>
        rw [h3] at HW
        cases h4 : decide (s.ks = t.ks) with
        | false => rw [h4] at HK; exact Sm04_p3 s.seg t.seg s.laid t.laid a.wa a.ka a.va a.ca a'.wa a'.ka a'.va a'.ca a.wc a.kc a.vc a.cc a'.wc a'.kc a'.vc a'.cc s.ws.length s.ks.length s.vs.length s.cs.length t.ws.length t.ks.length t.vs.length t.cs.length w g1 g2 (Lib.hid HW) (Lib.hid HK)
        | true =>
          rw [h4] at HK
          cases h5 : decide (s.vs = t.vs) with
          | false => rw [h5] at HV; exact Sm04_p4 s.seg t.seg s.laid t.laid a.wa a.ka a.va a.ca a'.wa a'.ka a'.va a'.ca a.wc a.kc a.vc a.cc a'.wc a'.kc a'.vc a'.cc s.ws.length s.ks.length s.vs.length s.cs.length t.ws.length t.ks.length t.vs.length t.cs.length w g1 g2 (Lib.hid HW) (Lib.hid HK) (Lib.hid HV)
          | true =>
            rw [h5] at HV
            cases h6 : decide (s.cs = t.cs) with
            | false => rw [h6] at HN; exact Sm04_p5 s.seg t.seg s.laid t.laid a.wa a.ka a.va a.ca a'.wa a'.ka a'.va a'.ca a.wc a.kc a.vc a.cc a'.wc a'.kc a'.vc a'.cc s.ws.length s.ks.length s.vs.length s.cs.length t.ws.length t.ks.length t.vs.length t.cs.length w g1 g2 (Lib.hid HW) (Lib.hid HK) (Lib.hid HV) (Lib.hid HN)
            | true => rw [h6] at HN; exact Sm04_p6 s.seg t.seg s.laid t.laid a.wa a.ka a.va a.ca a'.wa a'.ka a'.va a'.ca a.wc a.kc a.vc a.cc a'.wc a'.kc a'.vc a'.cc s.ws.length s.ks.length s.vs.length s.cs.length t.ws.length t.ks.length t.vs.length t.cs.length w g1 g2 (Lib.hid HW) (Lib.hid HK) (Lib.hid HV) (Lib.hid HN)
    · have g2 : (s.laid == t.laid) = false := by simpa using h2
      rw [decide_eq_false h2, Bool.false_and]
      exact Sm04_p1 s.seg t.seg s.laid t.laid a.wa a.ka a.va a.ca a'.wa a'.ka a'.va a'.ca a.wc a.kc a.vc a.cc a'.wc a'.kc a'.vc a'.cc s.ws.length s.ks.length s.vs.length s.cs.length t.ws.length t.ks.length t.vs.length t.cs.length w g1 g2
  · have g1 : (s.seg == t.seg) = false := by simpa using h1
    rw [decide_eq_false h1, Bool.false_and]
    exact Sm04_p0 s.seg t.seg s.laid t.laid a.wa a.ka a.va a.ca a'.wa a'.ka a'.va a'.ca a.wc a.kc a.vc a.cc a'.wc a'.kc a'.vc a'.cc s.ws.length s.ks.length s.vs.length s.cs.length t.ws.length t.ks.length t.vs.length t.cs.length w g1
theorem SmSl_p0 (sg sg2 ld ld2 : Int) (wa ka va ca wa' ka' va' ca' : Option Addr) (wc kc vc cc wc' kc' vc' cc' lw lk lv lc lw' lk' lv' lc' : Nat) (w : World) (g1 : (sg == sg2) = false) :
    Calls Tryz.prog 39 #[.agg #[.int .i64 sg, .slice wa lw wc, .slice ka lk kc, .slice va lv vc, .slice ca lc cc, .int .u64 ld], .agg #[.int .i64 sg2, .slice wa' lw' wc', .slice ka' lk' kc', .slice va' lv' vc', .slice ca' lc' cc', .int .u64 ld2]] w (AnsB w (.bool false)) := by
  go_enter Tryz.func39, Tryz.ntmps39
  have hB0 : Below w.heap.size w ((w.alloc (.cells #[.int .i64 sg, .slice wa lw wc, .slice ka lk kc, .slice va lv vc, .slice ca lc cc, .int .u64 ld] 29)).alloc (.cells #[.int .i64 sg2, .slice wa' lw' wc', .slice ka' lk' kc', .slice va' lv' vc', .slice ca' lc' cc', .int .u64 ld2] 29)) := by (exact xbel)
  go_wp2
  go_ret
  exact ⟨rfl, hB0⟩
theorem SmSl_p1 (sg sg2 ld ld2 : Int) (wa ka va ca wa' ka' va' ca' : Option Addr) (wc kc vc cc wc' kc' vc' cc' lw lk lv lc lw' lk' lv' lc' : Nat) (w : World) (g1 : (sg == sg2) = true) (g2 : (ld == ld2) = false) :
    Calls Tryz.prog 39 #[.agg #[.int .i64 sg, .slice wa lw wc, .slice ka lk kc, .slice va lv vc, .slice ca lc cc, .int .u64 ld], .agg #[.int .i64 sg2, .slice wa' lw' wc', .slice ka' lk' kc', .slice va' lv' vc', .slice ca' lc' cc', .int .u64 ld2]] w (AnsB w (.bool false)) := by
  go_enter Tryz.func39, Tryz.ntmps39
  have hB0 : Below w.heap.size w ((w.alloc (.cells #[.int .i64 sg, .slice wa lw wc, .slice ka lk kc, .slice va lv vc, .slice ca lc cc, .int .u64 ld] 29)).alloc (.cells #[.int .i64 sg2, .slice wa' lw' wc', .slice ka' lk' kc', .slice va' lv' vc', .slice ca' lc' cc', .int .u64 ld2] 29)) := by (exact xbel)
  go_wp2
  go_ret
  exact ⟨rfl, hB0⟩
theorem SmSl_p2 (sg sg2 ld ld2 : Int) (wa ka va ca wa' ka' va' ca' : Option Addr) (wc kc vc cc wc' kc' vc' cc' lw lk lv lc lw' lk' lv' lc' : Nat) (w : World) (g1 : (sg == sg2) = true) (g2 : (ld == ld2) = true) (HW : Hid (∀ W, Below w.heap.size w W → Calls Tryz.prog 65 #[.slice wa lw wc, .slice wa' lw' wc'] W (AnsB W (.bool false)))) :
    Calls Tryz.prog 39 #[.agg #[.int .i64 sg, .slice wa lw wc, .slice ka lk kc, .slice va lv vc, .slice ca lc cc, .int .u64 ld], .agg #[.int .i64 sg2, .slice wa' lw' wc', .slice ka' lk' kc', .slice va' lv' vc', .slice ca' lc' cc', .int .u64 ld2]] w (AnsB w (.bool false)) := by
  go_enter Tryz.func39, Tryz.ntmps39
  go_wp2_with fail
  refine (HW.out _ (by (exact xbel))).mono ?_
  rintro e w1 ⟨rfl, hb1⟩
  have hz_w1 := hb1.size
  try simp only [World.size_alloc, World.size_setCell] at hz_w1
  have hh := bc6 hb1 (au6 (al6 (b := w.heap.size) (by simp)))
  obtain ⟨c_t0, c_t1, c_t2, c_t3, c_t4, c_t5⟩ := hh
  have z_t := blt hb1 (auz (alz (b := w.heap.size) (by simp)))
  have hh := bc6 hb1 (al6 (b := w.heap.size + 1) (by simp))
  obtain ⟨c_o0, c_o1, c_o2, c_o3, c_o4, c_o5⟩ := hh
  have z_o := blt hb1 (alz (b := w.heap.size + 1) (by simp))
  have hB1 : Below w.heap.size w w1 := by (exact xbel)
  go_wp2
  go_ret
  exact ⟨rfl, hB1⟩
theorem SmSl_p3 (sg sg2 ld ld2 : Int) (wa ka va ca wa' ka' va' ca' : Option Addr) (wc kc vc cc wc' kc' vc' cc' lw lk lv lc lw' lk' lv' lc' : Nat) (w : World) (g1 : (sg == sg2) = true) (g2 : (ld == ld2) = true) (HW : Hid (∀ W, Below w.heap.size w W → Calls Tryz.prog 65 #[.slice wa lw wc, .slice wa' lw' wc'] W (AnsB W (.bool true)))) (HK : Hid (∀ W, Below w.heap.size w W → Calls Tryz.prog 66 #[.slice ka lk kc, .slice ka' lk' kc'] W (AnsB W (.bool false)))) :
    Calls Tryz.prog 39 #[.agg #[.int .i64 sg, .slice wa lw wc, .slice ka lk kc, .slice va lv vc, .slice ca lc cc, .int .u64 ld], .agg #[.int .i64 sg2, .slice wa' lw' wc', .slice ka' lk' kc', .slice va' lv' vc', .slice ca' lc' cc', .int .u64 ld2]] w (AnsB w (.bool false)) := by
  go_enter Tryz.func39, Tryz.ntmps39
  go_wp2_with fail
  refine (HW.out _ (by (exact xbel))).mono ?_
  rintro e w1 ⟨rfl, hb1⟩
  have hz_w1 := hb1.size
  try simp only [World.size_alloc, World.size_setCell] at hz_w1
  have hh := bc6 hb1 (au6 (al6 (b := w.heap.size) (by simp)))
  obtain ⟨c_t0, c_t1, c_t2, c_t3, c_t4, c_t5⟩ := hh
  have z_t := blt hb1 (auz (alz (b := w.heap.size) (by simp)))
  have hh := bc6 hb1 (al6 (b := w.heap.size + 1) (by simp))
  obtain ⟨c_o0, c_o1, c_o2, c_o3, c_o4, c_o5⟩ := hh
  have z_o := blt hb1 (alz (b := w.heap.size + 1) (by simp))
  have hB1 : Below w.heap.size w w1 := by (exact xbel)
  go_wp2_with fail
  refine (HK.out _ hB1).mono ?_
  rintro e w2 ⟨rfl, hb2⟩
  have hz_w2 := hb2.size
  try simp only [World.size_alloc, World.size_setCell] at hz_w2
  have hh := bc6 hb2 ⟨c_t0, c_t1, c_t2, c_t3, c_t4, c_t5⟩
  clear c_t0 c_t1 c_t2 c_t3 c_t4 c_t5
  obtain ⟨c_t0, c_t1, c_t2, c_t3, c_t4, c_t5⟩ := hh
  replace z_t := blt hb2 z_t
  have hh := bc6 hb2 ⟨c_o0, c_o1, c_o2, c_o3, c_o4, c_o5⟩
  clear c_o0 c_o1 c_o2 c_o3 c_o4 c_o5
  obtain ⟨c_o0, c_o1, c_o2, c_o3, c_o4, c_o5⟩ := hh
  replace z_o := blt hb2 z_o
  have hB2 : Below w.heap.size w w2 := by (exact xbel)
  go_wp2
  go_ret
  exact ⟨rfl, hB2⟩
theorem SmSl_p4 (sg sg2 ld ld2 : Int) (wa ka va ca wa' ka' va' ca' : Option Addr) (wc kc vc cc wc' kc' vc' cc' lw lk lv lc lw' lk' lv' lc' : Nat) (w : World) (g1 : (sg == sg2) = true) (g2 : (ld == ld2) = true) (HW : Hid (∀ W, Below w.heap.size w W → Calls Tryz.prog 65 #[.slice wa lw wc, .slice wa' lw' wc'] W (AnsB W (.bool true)))) (HK : Hid (∀ W, Below w.heap.size w W → Calls Tryz.prog 66 #[.slice ka lk kc, .slice ka' lk' kc'] W (AnsB W (.bool true)))) (HV : Hid (∀ W, Below w.heap.size w W → Calls Tryz.prog 66 #[.slice va lv vc, .slice va' lv' vc'] W (AnsB W (.bool false)))) :
    Calls Tryz.prog 39 #[.agg #[.int .i64 sg, .slice wa lw wc, .slice ka lk kc, .slice va lv vc, .slice ca lc cc, .int .u64 ld], .agg #[.int .i64 sg2, .slice wa' lw' wc', .slice ka' lk' kc', .slice va' lv' vc', .slice ca' lc' cc', .int .u64 ld2]] w (AnsB w (.bool false)) := by
  go_enter Tryz.func39, Tryz.ntmps39
  go_wp2_with fail
  refine (HW.out _ (by (exact xbel))).mono ?_
  rintro e w1 ⟨rfl, hb1⟩
  have hz_w1 := hb1.size
  try simp only [World.size_alloc, World.size_setCell] at hz_w1
  have hh := bc6 hb1 (au6 (al6 (b := w.heap.size) (by simp)))
  obtain ⟨c_t0, c_t1, c_t2, c_t3, c_t4, c_t5⟩ := hh
  have z_t := blt hb1 (auz (alz (b := w.heap.size) (by simp)))
  have hh := bc6 hb1 (al6 (b := w.heap.size + 1) (by simp))
  obtain ⟨c_o0, c_o1, c_o2, c_o3, c_o4, c_o5⟩ := hh
  have z_o := blt hb1 (alz (b := w.heap.size + 1) (by simp))
  have hB1 : Below w.heap.size w w1 := by (exact xbel)
  go_wp2_with fail
  refine (HK.out _ hB1).mono ?_
  rintro e w2 ⟨rfl, hb2⟩
  have hz_w2 := hb2.size
  try simp only [World.size_alloc, World.size_setCell] at hz_w2
  have hh := bc6 hb2 ⟨c_t0, c_t1, c_t2, c_t3, c_t4, c_t5⟩
  clear c_t0 c_t1 c_t2 c_t3 c_t4 c_t5
  obtain ⟨c_t0, c_t1, c_t2, c_t3, c_t4, c_t5⟩ := hh
  replace z_t := blt hb2 z_t
  have hh := bc6 hb2 ⟨c_o0, c_o1, c_o2, c_o3, c_o4, c_o5⟩
  clear c_o0 c_o1 c_o2 c_o3 c_o4 c_o5
  obtain ⟨c_o0, c_o1, c_o2, c_o3, c_o4, c_o5⟩ := hh
  replace z_o := blt hb2 z_o
  have hB2 : Below w.heap.size w w2 := by (exact xbel)
  go_wp2_with fail
  refine (HV.out _ hB2).mono ?_
  rintro e w3 ⟨rfl, hb3⟩
  have hz_w3 := hb3.size
  try simp only [World.size_alloc, World.size_setCell] at hz_w3
  have hh := bc6 hb3 ⟨c_t0, c_t1, c_t2, c_t3, c_t4, c_t5⟩
  clear c_t0 c_t1 c_t2 c_t3 c_t4 c_t5
  obtain ⟨c_t0, c_t1, c_t2, c_t3, c_t4, c_t5⟩ := hh
  replace z_t := blt hb3 z_t
  have hh := bc6 hb3 ⟨c_o0, c_o1, c_o2, c_o3, c_o4, c_o5⟩
  clear c_o0 c_o1 c_o2 c_o3 c_o4 c_o5
  obtain ⟨c_o0, c_o1, c_o2, c_o3, c_o4, c_o5⟩ := hh
  replace z_o := blt hb3 z_o
  have hB3 : Below w.heap.size w w3 := by (exact xbel)
  go_wp2
  go_ret
  exact ⟨rfl, hB3⟩
theorem SmSl_p5 (sg sg2 ld ld2 : Int) (wa ka va ca wa' ka' va' ca' : Option Addr) (wc kc vc cc wc' kc' vc' cc' lw lk lv lc lw' lk' lv' lc' : Nat) (w : World) (g1 : (sg == sg2) = true) (g2 : (ld == ld2) = true) (HW : Hid (∀ W, Below w.heap.size w W → Calls Tryz.prog 65 #[.slice wa lw wc, .slice wa' lw' wc'] W (AnsB W (.bool true)))) (HK : Hid (∀ W, Below w.heap.size w W → Calls Tryz.prog 66 #[.slice ka lk kc, .slice ka' lk' kc'] W (AnsB W (.bool true)))) (HV : Hid (∀ W, Below w.heap.size w W → Calls Tryz.prog 66 #[.slice va lv vc, .slice va' lv' vc'] W (AnsB W (.bool true)))) (HN : Hid (∀ W, Below w.heap.size w W → Calls Tryz.prog 67 #[.slice ca lc cc, .slice ca' lc' cc'] W (AnsB W (.bool false)))) :
    Calls Tryz.prog 39 #[.agg #[.int .i64 sg, .slice wa lw wc, .slice ka lk kc, .slice va lv vc, .slice ca lc cc, .int .u64 ld], .agg #[.int .i64 sg2, .slice wa' lw' wc', .slice ka' lk' kc', .slice va' lv' vc', .slice ca' lc' cc', .int .u64 ld2]] w (AnsB w (.bool false)) := by
  go_enter Tryz.func39, Tryz.ntmps39
  go_wp2_with fail
  refine (HW.out _ (by (exact xbel))).mono ?_
  rintro e w1 ⟨rfl, hb1⟩
  have hz_w1 := hb1.size
  try simp only [World.size_alloc, World.size_setCell] at hz_w1
  have hh := bc6 hb1 (au6 (al6 (b := w.heap.size) (by simp)))
  obtain ⟨c_t0, c_t1, c_t2, c_t3, c_t4, c_t5⟩ := hh
  have z_t := blt hb1 (auz (alz (b := w.heap.size) (by simp)))
  have hh := bc6 hb1 (al6 (b := w.heap.size + 1) (by simp))
  obtain ⟨c_o0, c_o1, c_o2, c_o3, c_o4, c_o5⟩ := hh
  have z_o := blt hb1 (alz (b := w.heap.size + 1) (by simp))
  have hB1 : Below w.heap.size w w1 := by (exact xbel)
  go_wp2_with fail
  refine (HK.out _ hB1).mono ?_
  rintro e w2 ⟨rfl, hb2⟩
  have hz_w2 := hb2.size
  try simp only [World.size_alloc, World.size_setCell] at hz_w2
  have hh := bc6 hb2 ⟨c_t0, c_t1, c_t2, c_t3, c_t4, c_t5⟩
  clear c_t0 c_t1 c_t2 c_t3 c_t4 c_t5
  obtain ⟨c_t0, c_t1, c_t2, c_t3, c_t4, c_t5⟩ := hh
  replace z_t := blt hb2 z_t
  have hh := bc6 hb2 ⟨c_o0, c_o1, c_o2, c_o3, c_o4, c_o5⟩
  clear c_o0 c_o1 c_o2 c_o3 c_o4 c_o5
  obtain ⟨c_o0, c_o1, c_o2, c_o3, c_o4, c_o5⟩ := hh
  replace z_o := blt hb2 z_o
  have hB2 : Below w.heap.size w w2 := by (exact xbel)
  go_wp2_with fail
  refine (HV.out _ hB2).mono ?_
  rintro e w3 ⟨rfl, hb3⟩
  have hz_w3 := hb3.size
  try simp only [World.size_alloc, World.size_setCell] at hz_w3
  have hh := bc6 hb3 ⟨c_t0, c_t1, c_t2, c_t3, c_t4, c_t5⟩
  clear c_t0 c_t1 c_t2 c_t3 c_t4 c_t5
  obtain ⟨c_t0, c_t1, c_t2, c_t3, c_t4, c_t5⟩ := hh
  replace z_t := blt hb3 z_t
  have hh := bc6 hb3 ⟨c_o0, c_o1, c_o2, c_o3, c_o4, c_o5⟩
  clear c_o0 c_o1 c_o2 c_o3 c_o4 c_o5
  obtain ⟨c_o0, c_o1, c_o2, c_o3, c_o4, c_o5⟩ := hh
  replace z_o := blt hb3 z_o
  have hB3 : Below w.heap.size w w3 := by (exact xbel)
  go_wp2_with fail
  refine (HN.out _ hB3).mono ?_
  rintro e w4 ⟨rfl, hb4⟩
  have hz_w4 := hb4.size
  try simp only [World.size_alloc, World.size_setCell] at hz_w4
  have hh := bc6 hb4 ⟨c_t0, c_t1, c_t2, c_t3, c_t4, c_t5⟩
  clear c_t0 c_t1 c_t2 c_t3 c_t4 c_t5
  obtain ⟨c_t0, c_t1, c_t2, c_t3, c_t4, c_t5⟩ := hh
  replace z_t := blt hb4 z_t
  have hh := bc6 hb4 ⟨c_o0, c_o1, c_o2, c_o3, c_o4, c_o5⟩
  clear c_o0 c_o1 c_o2 c_o3 c_o4 c_o5
  obtain ⟨c_o0, c_o1, c_o2, c_o3, c_o4, c_o5⟩ := hh
  replace z_o := blt hb4 z_o
  have hB4 : Below w.heap.size w w4 := by (exact xbel)
  go_wp2
  go_ret
  exact ⟨rfl, hB4⟩
theorem SmSl_p6 (sg sg2 ld ld2 : Int) (wa ka va ca wa' ka' va' ca' : Option Addr) (wc kc vc cc wc' kc' vc' cc' lw lk lv lc lw' lk' lv' lc' : Nat) (w : World) (g1 : (sg == sg2) = true) (g2 : (ld == ld2) = true) (HW : Hid (∀ W, Below w.heap.size w W → Calls Tryz.prog 65 #[.slice wa lw wc, .slice wa' lw' wc'] W (AnsB W (.bool true)))) (HK : Hid (∀ W, Below w.heap.size w W → Calls Tryz.prog 66 #[.slice ka lk kc, .slice ka' lk' kc'] W (AnsB W (.bool true)))) (HV : Hid (∀ W, Below w.heap.size w W → Calls Tryz.prog 66 #[.slice va lv vc, .slice va' lv' vc'] W (AnsB W (.bool true)))) (HN : Hid (∀ W, Below w.heap.size w W → Calls Tryz.prog 67 #[.slice ca lc cc, .slice ca' lc' cc'] W (AnsB W (.bool true)))) :
    Calls Tryz.prog 39 #[.agg #[.int .i64 sg, .slice wa lw wc, .slice ka lk kc, .slice va lv vc, .slice ca lc cc, .int .u64 ld], .agg #[.int .i64 sg2, .slice wa' lw' wc', .slice ka' lk' kc', .slice va' lv' vc', .slice ca' lc' cc', .int .u64 ld2]] w (AnsB w (.bool true)) := by
  go_enter Tryz.func39, Tryz.ntmps39
  go_wp2_with fail
  refine (HW.out _ (by (exact xbel))).mono ?_
  rintro e w1 ⟨rfl, hb1⟩
  have hz_w1 := hb1.size
  try simp only [World.size_alloc, World.size_setCell] at hz_w1
  have hh := bc6 hb1 (au6 (al6 (b := w.heap.size) (by simp)))
  obtain ⟨c_t0, c_t1, c_t2, c_t3, c_t4, c_t5⟩ := hh
  have z_t := blt hb1 (auz (alz (b := w.heap.size) (by simp)))
  have hh := bc6 hb1 (al6 (b := w.heap.size + 1) (by simp))
  obtain ⟨c_o0, c_o1, c_o2, c_o3, c_o4, c_o5⟩ := hh
  have z_o := blt hb1 (alz (b := w.heap.size + 1) (by simp))
  have hB1 : Below w.heap.size w w1 := by (exact xbel)
  go_wp2_with fail
  refine (HK.out _ hB1).mono ?_
  rintro e w2 ⟨rfl, hb2⟩
  have hz_w2 := hb2.size
  try simp only [World.size_alloc, World.size_setCell] at hz_w2
  have hh := bc6 hb2 ⟨c_t0, c_t1, c_t2, c_t3, c_t4, c_t5⟩
  clear c_t0 c_t1 c_t2 c_t3 c_t4 c_t5
  obtain ⟨c_t0, c_t1, c_t2, c_t3, c_t4, c_t5⟩ := hh
  replace z_t := blt hb2 z_t
  have hh := bc6 hb2 ⟨c_o0, c_o1, c_o2, c_o3, c_o4, c_o5⟩
  clear c_o0 c_o1 c_o2 c_o3 c_o4 c_o5
  obtain ⟨c_o0, c_o1, c_o2, c_o3, c_o4, c_o5⟩ := hh
  replace z_o := blt hb2 z_o
  have hB2 : Below w.heap.size w w2 := by (exact xbel)
  go_wp2_with fail
  refine (HV.out _ hB2).mono ?_
  rintro e w3 ⟨rfl, hb3⟩
  have hz_w3 := hb3.size
  try simp only [World.size_alloc, World.size_setCell] at hz_w3
  have hh := bc6 hb3 ⟨c_t0, c_t1, c_t2, c_t3, c_t4, c_t5⟩
  clear c_t0 c_t1 c_t2 c_t3 c_t4 c_t5
  obtain ⟨c_t0, c_t1, c_t2, c_t3, c_t4, c_t5⟩ := hh
  replace z_t := blt hb3 z_t
  have hh := bc6 hb3 ⟨c_o0, c_o1, c_o2, c_o3, c_o4, c_o5⟩
  clear c_o0 c_o1 c_o2 c_o3 c_o4 c_o5
  obtain ⟨c_o0, c_o1, c_o2, c_o3, c_o4, c_o5⟩ := hh
  replace z_o := blt hb3 z_o
  have hB3 : Below w.heap.size w w3 := by (exact xbel)
  go_wp2_with fail
  refine (HN.out _ hB3).mono ?_
  rintro e w4 ⟨rfl, hb4⟩
  have hz_w4 := hb4.size
  try simp only [World.size_alloc, World.size_setCell] at hz_w4
  have hh := bc6 hb4 ⟨c_t0, c_t1, c_t2, c_t3, c_t4, c_t5⟩
  clear c_t0 c_t1 c_t2 c_t3 c_t4 c_t5
  obtain ⟨c_t0, c_t1, c_t2, c_t3, c_t4, c_t5⟩ := hh
  replace z_t := blt hb4 z_t
  have hh := bc6 hb4 ⟨c_o0, c_o1, c_o2, c_o3, c_o4, c_o5⟩
  clear c_o0 c_o1 c_o2 c_o3 c_o4 c_o5
  obtain ⟨c_o0, c_o1, c_o2, c_o3, c_o4, c_o5⟩ := hh
  replace z_o := blt hb4 z_o
  have hB4 : Below w.heap.size w w4 := by (exact xbel)
  go_wp2
  go_ret
  exact ⟨rfl, hB4⟩
theorem SmSl_ok (s t : SlC) (a a' : SlA) (w : World) (hin : SlIn w s a) (hin' : SlIn w t a') (hl1 : s.ws.length ≤ 1000000000) (hl2 : s.ks.length ≤ 1000000000) (hl3 : s.vs.length ≤ 1000000000) (hl4 : s.cs.length ≤ 1000000000) :
    Calls Tryz.prog 39 #[slV s a, slV t a'] w (AnsB w (.bool (sameB s t))) := by
  have HW := fun (W : World) (hb : Below w.heap.size w W) => occSame_ok a.wa a'.wa a.wc a'.wc s.ws t.ws W (hin.w.below hb) (hin'.w.below hb) hl1
  have HK := fun (W : World) (hb : Below w.heap.size w W) => ans_drewN (Equal_int64 a.ka a'.ka a.kc a'.kc s.ks t.ks W (hin.k.below hb) (hin'.k.below hb) hl2)
  have HV := fun (W : World) (hb : Below w.heap.size w W) => ans_drewN (Equal_int64 a.va a'.va a.vc a'.vc s.vs t.vs W (hin.v.below hb) (hin'.v.below hb) hl3)
  have HN := fun (W : World) (hb : Below w.heap.size w W) => ans_drewN (Equal_int a.ca a'.ca a.cc a'.cc s.cs t.cs W (hin.n.below hb) (hin'.n.below hb) hl4)
  unfold sameB
  by_cases h1 : s.seg = t.seg
  · have g1 : (s.seg == t.seg) = true := by simpa using h1
    rw [decide_eq_true h1, Bool.true_and]
    by_cases h2 : s.laid = t.laid
    · have g2 : (s.laid == t.laid) = true := by simpa using h2
      rw [decide_eq_true h2, Bool.true_and]
      cases h3 : decide (s.ws = t.ws) with
      | false => rw [h3] at HW; exact SmSl_p2 s.seg t.seg s.laid t.laid a.wa a.ka a.va a.ca a'.wa a'.ka a'.va a'.ca a.wc a.kc a.vc a.cc a'.wc a'.kc a'.vc a'.cc s.ws.length s.ks.length s.vs.length s.cs.length t.ws.length t.ks.length t.vs.length t.cs.length w g1 g2 (Lib.hid HW)
      | true =>
        rw [h3] at HW
        cases h4 : decide (s.ks = t.ks) with
        | false => rw [h4] at HK; exact SmSl_p3 s.seg t.seg s.laid t.laid a.wa a.ka a.va a.ca a'.wa a'.ka a'.va a'.ca a.wc a.kc a.vc a.cc a'.wc a'.kc a'.vc a'.cc s.ws.length s.ks.length s.vs.length s.cs.length t.ws.length t.ks.length t.vs.length t.cs.length w g1 g2 (Lib.hid HW) (Lib.hid HK)
        | true =>
          rw [h4] at HK
          cases h5 : decide (s.vs = t.vs) with
          | false => rw [h5] at HV; exact SmSl_p4 s.seg t.seg s.laid t.laid a.wa a.ka a.va a.ca a'.wa a'.ka a'.va a'.ca a.wc a.kc a.vc a.cc a'.wc a'.kc a'.vc a'.cc s.ws.length s.ks.length s.vs.length s.cs.length t.ws.length t.ks.length t.vs.length t.cs.length w g1 g2 (Lib.hid HW) (Lib.hid HK) (Lib.hid HV)
          | true =>
            rw [h5] at HV
            cases h6 : decide (s.cs = t.cs) with
            | false => rw [h6] at HN; exact SmSl_p5 s.seg t.seg s.laid t.laid a.wa a.ka a.va a.ca a'.wa a'.ka a'.va a'.ca a.wc a.kc a.vc a.cc a'.wc a'.kc a'.vc a'.cc s.ws.length s.ks.length s.vs.length s.cs.length t.ws.length t.ks.length t.vs.length t.cs.length w g1 g2 (Lib.hid HW) (Lib.hid HK) (Lib.hid HV) (Lib.hid HN)
            | true => rw [h6] at HN; exact SmSl_p6 s.seg t.seg s.laid t.laid a.wa a.ka a.va a.ca a'.wa a'.ka a'.va a'.ca a.wc a.kc a.vc a.cc a'.wc a'.kc a'.vc a'.cc s.ws.length s.ks.length s.vs.length s.cs.length t.ws.length t.ks.length t.vs.length t.cs.length w g1 g2 (Lib.hid HW) (Lib.hid HK) (Lib.hid HV) (Lib.hid HN)
    · have g2 : (s.laid == t.laid) = false := by simpa using h2
      rw [decide_eq_false h2, Bool.false_and]
      exact SmSl_p1 s.seg t.seg s.laid t.laid a.wa a.ka a.va a.ca a'.wa a'.ka a'.va a'.ca a.wc a.kc a.vc a.cc a'.wc a'.kc a'.vc a'.cc s.ws.length s.ks.length s.vs.length s.cs.length t.ws.length t.ks.length t.vs.length t.cs.length w g1 g2
  · have g1 : (s.seg == t.seg) = false := by simpa using h1
    rw [decide_eq_false h1, Bool.false_and]
    exact SmSl_p0 s.seg t.seg s.laid t.laid a.wa a.ka a.va a.ca a'.wa a'.ka a'.va a'.ca a.wc a.kc a.vc a.cc a'.wc a'.kc a'.vc a'.cc s.ws.length s.ks.length s.vs.length s.cs.length t.ws.length t.ks.length t.vs.length t.cs.length w g1
end

section
open Go.RowKit

def cfB (c d : Cfg) : Bool := decide (c.tag = d.tag) && (decide (c.most = d.most) && (decide (c.seg = d.seg) && (decide (c.least = d.least) && (decide (c.den = d.den) && (decide (c.ll = d.ll) && (decide (c.rl = d.rl) && (decide (c.rh = d.rh) && (decide (c.lh = d.lh)))))))))
theorem cfB_refl (c : Cfg) : cfB c c = true := by simp [cfB]
end
end Go.Proofs.YtjhpblejlchhjaaGreat

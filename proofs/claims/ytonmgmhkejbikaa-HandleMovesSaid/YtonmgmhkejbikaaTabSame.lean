/- Walks of Check (the reference's), and of both Same. -/
import Derived.Test.YtonmgmhkejbikaaTab
import Derived.Test.YtonmgmhkejbikaaSame
namespace Go.Proofs.Ytonmgmhkejbikaa
open Go.RowKit Go.Shelf
set_option linter.unusedVariables false
set_option linter.unusedSimpArgs false

theorem Check14_ok (ga aa : Option Addr) (gc ac : Nat) (gs ps : List Int) (w : World) (hg : IsInts w ga gs) (hp : IsInts w aa ps) (hlg : gs.length ≤ 1000000000) (hla : ps.length ≤ 1000000000) :
    Calls Try.prog 16 #[tabV ga gs.length gc aa ps.length ac] w fun e w' => e = .returned (.int .i64 (mayE gs ps)) ∧ Below w.heap.size w w' := by
  have HG := Lib.hid hg
  have HP := Lib.hid hp
  have hab : Below w.heap.size w (w.alloc (.cells #[.slice ga gs.length gc, .slice aa ps.length ac] 24)) := (Below.refl _ w).alloc (Nat.le_refl _) _
  have hmy := May_ok ga aa gc ac gs ps _ (HG.out.below hab) (HP.out.below hab) hlg hla
  by_cases hm : may gs ps = true
  · rw [mayE_yes hm]
    rw [hm] at hmy
    have HC := Lib.hid hmy
    clear hg hp hm hmy
    go_enter Try.func16, Try.ntmps16
    go_wp2_with fail
    refine HC.out.mono ?_
    rintro e w3 ⟨rfl, hb3⟩
    go_wp2
    go_ret
    exact ⟨rfl, hab.trans (hb3.mono (by simp))⟩
  · have hm' : may gs ps = false := by simpa using hm
    rw [mayE_no hm']
    rw [hm'] at hmy
    have HC := Lib.hid hmy
    clear hg hp hm hm' hmy
    go_enter Try.func16, Try.ntmps16
    go_wp2_with fail
    refine HC.out.mono ?_
    rintro e w3 ⟨rfl, hb3⟩
    go_wp2
    go_ret
    exact ⟨rfl, hab.trans (hb3.mono (by simp))⟩

/-- slices.Equal at []int -/
theorem Equal_ok (a b : Option Addr) (ca cb : Nat) (xs ys : List Int) (w : World) (ha : IsInts w a xs) (hb : IsInts w b ys) (hm : xs.length ≤ 1000000000) :
    Calls Try.prog 34 #[.slice a xs.length ca, .slice b ys.length cb] w fun e w' => e = .returned (.bool (decide (xs = ys))) ∧ ∃ n, w' = w.drewN n := by
  by_cases hlen : xs.length = ys.length
  · have hl1 : ((xs.length : Int) != (ys.length : Int)) = false := by simp [hlen]
    have HL := Lib.hid hlen
    clear hlen
    have HA := Lib.hid ha
    have HB := Lib.hid hb
    clear ha hb
    go_enter Try.func34, Try.ntmps34
    go_wp2
    go_loopg [13] xs.length (fun g i wr => ∃ (k n : Nat), k + g = xs.length ∧ i = .int .i64 k ∧ wr = w.drewN n ∧ xs.take k = ys.take k)
    case atStart => exact ⟨0, 0, by omega, rfl, rfl, by simp⟩
    case round =>
      obtain ⟨k, n, hk, rfl, rfl, ht⟩ := hrel
      have HT := Lib.hid ht
      clear ht
      by_cases hlt : k < xs.length
      · have hlt2 : k < ys.length := by rw [← HL.out]; exact hlt
        obtain ⟨b1, o1, x, rfl, hx, h1, _⟩ := HA.out.get hlt
        obtain ⟨b2, o2, y, rfl, hy, h2, _⟩ := HB.out.get hlt2
        by_cases heq : x = y
        · have he : (x != y) = false := by simpa using heq
          have HE := Lib.hid heq
          clear heq
          go_wp2
          go_quiet (fail)
          go_wp2
          go_roundg (gk - 1)
          case measure => omega
          case rel => exact ⟨k + 1, n + nq, by omega, by go_num, by simp, take_succ_eq HL.out hlt HT.out (hx.out.trans (HE.out.trans hy.out.symm))⟩
        · have he : (x != y) = true := by simpa using heq
          have HE := Lib.hid heq
          clear heq
          go_wp2
          go_quiet (fail)
          go_wp2
          go_ret
          exact ⟨by have : xs ≠ ys := fun h => HE.out (by rw [← hx.out, ← hy.out, h])
                    simp [this], _, World.drewN_drewN _ _ _⟩
      · go_wp2
        go_ret
        have hk2 : k = xs.length := by omega
        have hxy : xs = ys := by
          have := HT.out
          rw [hk2, List.take_length, HL.out, List.take_length] at this
          exact this
        exact ⟨by simp [hxy], _, rfl⟩
  · have hl1 : ((xs.length : Int) != (ys.length : Int)) = true := by simp; omega
    have hxy : xs ≠ ys := fun h => hlen (by rw [h])
    have HX := Lib.hid hxy
    clear ha hb hlen hxy
    go_enter Try.func34, Try.ntmps34
    go_wp2
    go_ret
    exact ⟨by simp [HX.out], 0, rfl⟩

theorem SameT_ok (ga aa gb ab : Option Addr) (gc ac gd ad : Nat) (gs ps gs' ps' : List Int) (w : World) (hg : IsInts w ga gs) (hp : IsInts w aa ps) (hg' : IsInts w gb gs') (hp' : IsInts w ab ps') (hlg : gs.length ≤ 1000000000) (hla : ps.length ≤ 1000000000) :
    Calls Try.prog 17 #[tabV ga gs.length gc aa ps.length ac, tabV gb gs'.length gd ab ps'.length ad] w fun e w' => e = .returned (.bool (decide (gs = gs') && decide (ps = ps'))) ∧ Below w.heap.size w w' := by
  have hab : Below w.heap.size w ((w.alloc (.cells #[.slice ga gs.length gc, .slice aa ps.length ac] 24)).alloc (.cells #[.slice gb gs'.length gd, .slice ab ps'.length ad] 24)) := ((Below.refl _ w).alloc (Nat.le_refl _) _).alloc (by simp) _
  have H1 := Lib.hid (Equal_ok ga gb gc gd gs gs' _ (hg.below hab) (hg'.below hab) hlg)
  have H2 := Lib.hid (fun n => Equal_ok aa ab ac ad ps ps' _ (hp.below (below_drewN hab n)) (hp'.below (below_drewN hab n)) hla)
  have HB := Lib.hid hab
  clear hg hp hg' hp' hab
  by_cases h : gs = gs'
  · have hd : decide (gs = gs') = true := by simp [h]
    rw [hd] at H1 ⊢
    clear hd
    have HH := Lib.hid h
    clear h
    go_enter Try.func17, Try.ntmps17
    go_wp2_with fail
    refine H1.out.mono ?_
    rintro e w3 ⟨rfl, n, rfl⟩
    go_wp2_with fail
    refine (H2.out n).mono ?_
    rintro e w4 ⟨rfl, m, rfl⟩
    go_wp2
    go_ret
    exact ⟨by simp, below_drewN HB.out (n + m)⟩
  · have hd : decide (gs = gs') = false := by simp [h]
    rw [hd] at H1 ⊢
    clear hd h
    go_enter Try.func17, Try.ntmps17
    go_wp2_with fail
    refine H1.out.mono ?_
    rintro e w3 ⟨rfl, n, rfl⟩
    go_wp2
    go_ret
    exact ⟨by simp, below_drewN HB.out n⟩

theorem Same14_ok (ga aa gb ab : Option Addr) (gc ac gd ad : Nat) (gs ps gs' ps' : List Int) (w : World) (hg : IsInts w ga gs) (hp : IsInts w aa ps) (hg' : IsInts w gb gs') (hp' : IsInts w ab ps') (hlg : gs.length ≤ 1000000000) (hla : ps.length ≤ 1000000000) :
    Calls Try.prog 18 #[tabV ga gs.length gc aa ps.length ac, tabV gb gs'.length gd ab ps'.length ad] w fun e w' => e = .returned (.bool (decide (gs = gs') && decide (ps = ps'))) ∧ Below w.heap.size w w' := by
  have hab : Below w.heap.size w ((w.alloc (.cells #[.slice ga gs.length gc, .slice aa ps.length ac] 24)).alloc (.cells #[.slice gb gs'.length gd, .slice ab ps'.length ad] 24)) := ((Below.refl _ w).alloc (Nat.le_refl _) _).alloc (by simp) _
  have H1 := Lib.hid (SameInts_ok ga gb gc gd gs gs' _ (hg.below hab) (hg'.below hab) hlg)
  have H2 := Lib.hid (fun n => SameInts_ok aa ab ac ad ps ps' _ (hp.below (below_drewN hab n)) (hp'.below (below_drewN hab n)) hla)
  have HB := Lib.hid hab
  clear hg hp hg' hp' hab
  by_cases h : gs = gs'
  · have hd : decide (gs = gs') = true := by simp [h]
    rw [hd] at H1 ⊢
    clear hd
    have HH := Lib.hid h
    clear h
    go_enter Try.func18, Try.ntmps18
    go_wp2_with fail
    refine H1.out.mono ?_
    rintro e w3 ⟨rfl, n, rfl⟩
    go_wp2_with fail
    refine (H2.out n).mono ?_
    rintro e w4 ⟨rfl, m, rfl⟩
    go_wp2
    go_ret
    exact ⟨by simp, below_drewN HB.out (n + m)⟩
  · have hd : decide (gs = gs') = false := by simp [h]
    rw [hd] at H1 ⊢
    clear hd h
    go_enter Try.func18, Try.ntmps18
    go_wp2_with fail
    refine H1.out.mono ?_
    rintro e w3 ⟨rfl, n, rfl⟩
    go_wp2
    go_ret
    exact ⟨by simp, below_drewN HB.out n⟩
end Go.Proofs.Ytonmgmhkejbikaa

/- Tables of handles: plain facts, and the reference's May. -/
import Derived.Test.YtonmgmhkejbikaaRange
namespace Go.Proofs.Ytonmgmhkejbikaa
open Go.RowKit Go.Shelf
set_option linter.unusedVariables false
set_option linter.unusedSimpArgs false

/-- may one number be? -/
def okAt (g a : Int) : Bool := !(decide (g < 0) || decide (2147483647 < g) || decide (a < -1) || (decide (0 ≤ a) && decide (g = 2147483647)))
def okTo (gs ps : List Int) (k : Nat) : Bool := (List.range k).all fun i => okAt (gs.getD i 0) (ps.getD i 0)
/-- may a table be? -/
def may (gs ps : List Int) : Bool := decide (ps.length = gs.length) && decide (gs.length ≤ 65536) && okTo gs ps gs.length
theorem okTo_zero (gs ps : List Int) : okTo gs ps 0 = true := rfl
theorem okTo_succ (gs ps : List Int) (k : Nat) : okTo gs ps (k + 1) = (okTo gs ps k && okAt (gs.getD k 0) (ps.getD k 0)) := by
  simp [okTo, List.range_succ]
theorem okTo_false {gs ps : List Int} {k n : Nat} (hk : k < n) (h : okAt (gs.getD k 0) (ps.getD k 0) = false) : okTo gs ps n = false := by
  rw [okTo, List.all_eq_false]
  exact ⟨k, by simpa using hk, by simpa using h⟩
theorem may_len {gs ps : List Int} (h : may gs ps = true) : ps.length = gs.length ∧ gs.length ≤ 65536 := by
  simp only [may, Bool.and_eq_true, decide_eq_true_eq] at h
  exact h.1

/-- Check's answer -/
def mayE (gs ps : List Int) : Int := if may gs ps = true then 0 else 8
theorem mayE_yes {gs ps : List Int} (h : may gs ps = true) : mayE gs ps = 0 := by simp [mayE, h]
theorem mayE_no {gs ps : List Int} (h : may gs ps = false) : mayE gs ps = 8 := by simp [mayE, h]

/-- a table's value -/
abbrev tabV (ga : Option Addr) (gl gc : Nat) (aa : Option Addr) (al ac : Nat) : Value := .agg #[.slice ga gl gc, .slice aa al ac]

set_option maxHeartbeats 1000000 in
theorem May_ok (ga aa : Option Addr) (gc ac : Nat) (gs ps : List Int) (w : World) (hg : IsInts w ga gs) (ha : IsInts w aa ps) (hlg : gs.length ≤ 1000000000) (hla : ps.length ≤ 1000000000) :
    Calls Try.prog 31 #[tabV ga gs.length gc aa ps.length ac] w fun e w' => e = .returned (.bool (may gs ps)) ∧ Below w.heap.size w w' := by
  by_cases h1 : ps.length = gs.length
  · by_cases h2 : gs.length ≤ 65536
    · have hfin : may gs ps = okTo gs ps gs.length := by simp [may, h1, h2]
      rw [hfin]
      rw [h1]
      have HG := Lib.hid hg
      have HA := Lib.hid ha
      have H1 := Lib.hid h1
      clear hg ha hla hlg h1 hfin
      go_enter Try.func31, Try.ntmps31
      go_wp2
      go_loopg [3] gs.length (fun g i wr => ∃ k : Nat, k + g = gs.length ∧ i = .int .i64 k ∧ wr = w.alloc (.cells #[.slice ga gs.length gc, .slice aa gs.length ac] 24) ∧ Hid (okTo gs ps k = true))
      case atStart => exact ⟨0, by omega, rfl, rfl, Lib.hid rfl⟩
      case round =>
        obtain ⟨k, hk, rfl, rfl, HT⟩ := hrel
        by_cases hlt : k < gs.length
        · obtain ⟨b1, o1, x, rfl, hx, hc1, hl1⟩ := HG.out.get hlt
          obtain ⟨b2, o2, y, rfl, hy, hc2, hl2⟩ := HA.out.get (k := k) (by rw [H1.out]; exact hlt)
          have hstep : okTo gs ps (k + 1) = okAt x y := by rw [okTo_succ, HT.out, hx.out, hy.out]; rfl
          have hbad : okAt x y = false → okTo gs ps gs.length = false := fun h => okTo_false hlt (by rw [hx.out, hy.out]; exact h)
          have HS := Lib.hid hstep
          have HB := Lib.hid hbad
          clear hstep hbad
          by_cases c1 : x < 0
          · have HZ := Lib.hid (HB.out (by simp [okAt, c1]))
            go_wp2
            go_ret
            exact ⟨by rw [HZ.out]; rfl, (Below.refl _ _).alloc (Nat.le_refl _) _⟩
          · by_cases c2 : 2147483647 < x
            · have HZ := Lib.hid (HB.out (by simp [okAt, c2]))
              go_wp2
              go_ret
              exact ⟨by rw [HZ.out]; rfl, (Below.refl _ _).alloc (Nat.le_refl _) _⟩
            · by_cases c3 : y < -1
              · have HZ := Lib.hid (HB.out (by simp [okAt, c3]))
                go_wp2
                go_ret
                exact ⟨by rw [HZ.out]; rfl, (Below.refl _ _).alloc (Nat.le_refl _) _⟩
              · by_cases c4 : 0 ≤ y
                · by_cases c5 : x = 2147483647
                  · have HZ := Lib.hid (HB.out (by simp [okAt, c4, c5]))
                    have c6 : (x == 2147483647) = true := by simpa using c5
                    have HC := Lib.hid c5
                    clear c5
                    go_wp2
                    go_ret
                    exact ⟨by rw [HZ.out]; rfl, (Below.refl _ _).alloc (Nat.le_refl _) _⟩
                  · have c6 : (x == 2147483647) = false := by simpa using c5
                    have hok : okAt x y = true := by simp [okAt, c1, c2, c3, c5]
                    have HO := Lib.hid hok
                    clear hok c5
                    go_wp2
                    go_roundg (gk - 1)
                    case measure => omega
                    case rel => exact ⟨k + 1, by omega, by go_num, rfl, Lib.hid (HS.out.trans HO.out)⟩
                · have hok : okAt x y = true := by simp [okAt, c1, c2, c3, c4]
                  have HO := Lib.hid hok
                  clear hok
                  go_wp2
                  go_roundg (gk - 1)
                  case measure => omega
                  case rel => exact ⟨k + 1, by omega, by go_num, rfl, Lib.hid (HS.out.trans HO.out)⟩
        · obtain rfl : k = gs.length := by omega
          go_wp2
          go_ret
          exact ⟨by rw [HT.out]; rfl, (Below.refl _ _).alloc (Nat.le_refl _) _⟩
    · have hfin : may gs ps = false := by simp [may, h2]
      rw [hfin, h1]
      clear hg ha hla h1 hfin
      go_enter Try.func31, Try.ntmps31
      go_wp2
      go_ret
      exact ⟨rfl, (Below.refl _ _).alloc (Nat.le_refl _) _⟩
  · have hfin : may gs ps = false := by simp [may, h1]
    rw [hfin]
    have hne : ((ps.length : Int) != (gs.length : Int)) = true := by simp; omega
    clear hg ha h1 hfin
    go_enter Try.func31, Try.ntmps31
    go_wp2
    go_ret
    exact ⟨rfl, (Below.refl _ _).alloc (Nat.le_refl _) _⟩
end Go.Proofs.Ytonmgmhkejbikaa

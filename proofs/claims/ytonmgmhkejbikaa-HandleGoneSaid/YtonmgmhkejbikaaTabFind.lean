/- Walks of has, asked, Find, and of the reference's Is, Find. -/
import Derived.Test.YtonmgmhkejbikaaTabTwin
import Derived.Test.YtonmgmhkejbikaaTabCk
namespace Go.Proofs.Ytonmgmhkejbikaa
open Go.RowKit Go.Shelf
set_option linter.unusedVariables false
set_option linter.unusedSimpArgs false

/-- is a handle given out? -/
def isH (gs ps : List Int) (n g : Int) : Bool := decide (0 ≤ n) && decide (n < gs.length) && decide (0 ≤ ps.getD n.toNat 0) && decide (gs.getD n.toNat 0 = g)
theorem isH_facts {gs ps : List Int} {n g : Int} (h : isH gs ps n g = true) : 0 ≤ n ∧ n < gs.length ∧ 0 ≤ ps.getD n.toNat 0 ∧ gs.getD n.toNat 0 = g := by
  simp only [isH, Bool.and_eq_true, decide_eq_true_eq] at h
  exact ⟨h.1.1.1, h.1.1.2, h.1.2, h.2⟩

theorem Is14_ok (ga aa : Option Addr) (gc ac : Nat) (gs ps : List Int) (n g : Int) (w : World) (hg : IsInts w ga gs) (hp : IsInts w aa ps) (hl : ps.length = gs.length) (hlg : gs.length ≤ 1000000000) :
    Calls Try.prog 33 #[tabV ga gs.length gc aa ps.length ac, .agg #[.int .i64 n, .int .i64 g]] w fun e w' => e = .returned (.bool (isH gs ps n g)) ∧ Below w.heap.size w w' := by
  have HB := Lib.hid ((((Below.refl _ w).alloc (Nat.le_refl _) (.cells #[.slice ga gs.length gc, .slice aa ps.length ac] 24)).alloc (by simp) (.cells #[.int .i64 n, .int .i64 g] 26)))
  rw [hl]
  rw [hl] at HB
  by_cases h1 : 0 ≤ n
  · by_cases h2 : n < gs.length
    · obtain ⟨b2, o2, y, rfl, hy, hcy, hl2⟩ := hp.get (k := n.toNat) (by omega)
      obtain ⟨b1, o1, x, rfl, hx, hcx, hl1⟩ := hg.get (k := n.toNat) (by omega)
      have d1 : decide (0 ≤ n) = true := by simpa using h1
      have d2 : decide (n < gs.length) = true := by simpa using h2
      have hiv : isH gs ps n g = (decide (0 ≤ y) && decide (x = g)) := by
        rw [isH, d1, d2, hy.out, hx.out]; rfl
      rw [hiv]
      clear hiv hg hp
      by_cases h3 : 0 ≤ y
      · have d3 : decide (0 ≤ y) = true := by simpa using h3
        rw [d3]
        by_cases h4 : x = g
        · have d4 : decide (x = g) = true := by simpa using h4
          have e4 : (x == g) = true := by simpa using h4
          rw [d4]
          clear d4 h4 hl
          go_enter Try.func33, Try.ntmps33
          go_wp2
          go_quiet (fail)
          go_wp2
          go_ret
          exact ⟨rfl, below_drewN HB.out _⟩
        · have d4 : decide (x = g) = false := by simpa using h4
          have e4 : (x == g) = false := by simpa using h4
          rw [d4]
          clear d4 h4 hl
          go_enter Try.func33, Try.ntmps33
          go_wp2
          go_quiet (fail)
          go_wp2
          go_ret
          exact ⟨rfl, below_drewN HB.out _⟩
      · have d3 : decide (0 ≤ y) = false := by simpa using h3
        rw [d3]
        clear hl h3
        go_enter Try.func33, Try.ntmps33
        go_wp2
        go_quiet (fail)
        go_wp2
        go_ret
        exact ⟨rfl, below_drewN HB.out _⟩
    · have d1 : decide (0 ≤ n) = true := by simpa using h1
      have d2 : decide (n < gs.length) = false := by simpa using h2
      have hiv : isH gs ps n g = false := by rw [isH, d1, d2]; rfl
      rw [hiv]
      clear hiv hl h2 hg hp
      go_enter Try.func33, Try.ntmps33
      go_wp2
      go_quiet (fail)
      go_wp2
      go_ret
      exact ⟨rfl, below_drewN HB.out _⟩
  · have d1 : decide (0 ≤ n) = false := by simpa using h1
    have hiv : isH gs ps n g = false := by rw [isH, d1]; rfl
    rw [hiv]
    clear hiv hl h1 hg hp
    go_enter Try.func33, Try.ntmps33
    go_wp2
    go_quiet (fail)
    go_wp2
    go_ret
    exact ⟨rfl, below_drewN HB.out _⟩
theorem has_ok (B : Nat) (ga aa : Option Addr) (gc ac : Nat) (gs ps : List Int) (n g : Int) (w : World) (hb0 : w.cell? ⟨B, 0, none⟩ = some (.slice ga gs.length gc)) (hb1 : w.cell? ⟨B, 1, none⟩ = some (.slice aa gs.length ac)) (hg : IsInts w ga gs) (hp : IsInts w aa ps) (hl : ps.length = gs.length) (hlg : gs.length ≤ 1000000000) (hlo : ∀ k, k < gs.length → -1 ≤ ps.getD k 0) :
    Calls Try.prog 40 #[.pointer (some ⟨B, 0, none⟩), .agg #[.int .i64 n, .int .i64 g]] w fun e w' => e = .returned (.bool (isH gs ps n g)) ∧ Below w.heap.size w w' := by
  have HB := Lib.hid ((Below.refl _ w).alloc (Nat.le_refl _) (.cells #[.int .i64 n, .int .i64 g] 26))
  have hbl : B < w.heap.size := World.block_lt_of_cell? w _ hb0
  by_cases h1 : 0 ≤ n
  · by_cases h2 : n < gs.length
    · obtain ⟨b2, o2, y, rfl, hy, hcy, hl2⟩ := hp.get (k := n.toNat) (by omega)
      obtain ⟨b1, o1, x, rfl, hx, hcx, hl1⟩ := hg.get (k := n.toNat) (by omega)
      have d1 : decide (0 ≤ n) = true := by simpa using h1
      have d2 : decide (n < gs.length) = true := by simpa using h2
      have hy1 : -1 ≤ y := by rw [← hy.out]; exact hlo _ (by omega)
      have hiv : isH gs ps n g = (decide (0 ≤ y) && decide (x = g)) := by
        rw [isH, d1, d2, hy.out, hx.out]; rfl
      rw [hiv]
      clear hiv hg hp hlo
      by_cases h3 : 0 ≤ y
      · have d3 : decide (0 ≤ y) = true := by simpa using h3
        rw [d3]
        have e3 : (y != -1) = true := by simp; omega
        by_cases h4 : x = g
        · have d4 : decide (x = g) = true := by simpa using h4
          have e4 : (x == g) = true := by simpa using h4
          rw [d4]
          clear d4 h4 hl
          go_enter Try.func40, Try.ntmps40
          go_wp2
          go_quiet (fail)
          go_wp2
          go_ret
          exact ⟨rfl, below_drewN HB.out _⟩
        · have d4 : decide (x = g) = false := by simpa using h4
          have e4 : (x == g) = false := by simpa using h4
          rw [d4]
          clear d4 h4 hl
          go_enter Try.func40, Try.ntmps40
          go_wp2
          go_quiet (fail)
          go_wp2
          go_ret
          exact ⟨rfl, below_drewN HB.out _⟩
      · have d3 : decide (0 ≤ y) = false := by simpa using h3
        rw [d3]
        have e3 : (y != -1) = false := by simp; omega
        clear hl h3
        go_enter Try.func40, Try.ntmps40
        go_wp2
        go_quiet (fail)
        go_wp2
        go_ret
        exact ⟨rfl, below_drewN HB.out _⟩
    · have d1 : decide (0 ≤ n) = true := by simpa using h1
      have d2 : decide (n < gs.length) = false := by simpa using h2
      have hiv : isH gs ps n g = false := by rw [isH, d1, d2]; rfl
      rw [hiv]
      clear hiv hl h2 hg hp
      go_enter Try.func40, Try.ntmps40
      go_wp2
      go_quiet (fail)
      go_wp2
      go_ret
      exact ⟨rfl, below_drewN HB.out _⟩
  · have d1 : decide (0 ≤ n) = false := by simpa using h1
    have hiv : isH gs ps n g = false := by rw [isH, d1]; rfl
    rw [hiv]
    clear hiv hl h1 hg hp
    go_enter Try.func40, Try.ntmps40
    go_wp2
    go_quiet (fail)
    go_wp2
    go_ret
    exact ⟨rfl, below_drewN HB.out _⟩
end Go.Proofs.Ytonmgmhkejbikaa

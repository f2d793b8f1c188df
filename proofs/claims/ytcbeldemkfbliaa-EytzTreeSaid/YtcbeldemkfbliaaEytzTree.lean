/-
  EytzTree: what is under a left place has a lesser rank, what is under a right one a greater rank.
  No condition.
-/
import Derived.Test.YtcbeldemkfbliaaEytzAlive
namespace Go.Proofs.Ytcbeldemkfbliaa
open Go.RowKit Go.Shelf
set_option linter.unusedVariables false

theorem anc_above {x u c : Nat} (hc : c = 2 * u + 1 ∨ c = 2 * u + 2) (h : anc x c = true) : anc x u = true := by
  by_cases hx : u < x
  · rcases anc_kids x x u (Nat.le_refl _) hx with ⟨h1, _⟩ | ⟨_, h2, h3⟩
    · exact h1
    · rcases hc with rfl | rfl
      · rw [h2] at h; cases h
      · rw [h3] at h; cases h
  · rw [anc_lt (show x < c by omega)] at h; cases h

set_option maxHeartbeats 1000000 in
theorem EytzTree_walk (n a : Int) (w : World) :
    Calls Try.prog 4 #[.int .i64 n, .int .i64 a] w fun e w' => e = .returned (.bool true) ∧ Below w.heap.size w w' := by
  by_cases hbig : 3000 < n ∨ a < 0 ∨ n ≤ a
  · have hcut : 3000 < n ∨ (¬ 3000 < n ∧ a < 0) ∨ (¬ 3000 < n ∧ ¬ a < 0 ∧ n ≤ a) := by omega
    clear hbig
    rcases hcut with h | ⟨h, h1⟩ | ⟨h, h1, h2⟩
    all_goals
      go_enter Try.func4, Try.ntmps4
      go_wp2_with fail
      refine (alive22 _).mono ?_
      rintro e w1 ⟨rfl, hb1⟩
      go_wp2
      go_ret
      exact ⟨rfl, hb1⟩
  · obtain ⟨N, rfl⟩ := Int.eq_ofNat_of_zero_le (show 0 ≤ n by omega)
    obtain ⟨A, rfl⟩ := Int.eq_ofNat_of_zero_le (show 0 ≤ a by omega)
    have h1 : N ≤ 3000 := by omega
    have h2 : A < N := by omega
    clear hbig
    go_enter Try.func4, Try.ntmps4
    go_wp2_with fail
    refine (alive22 _).mono ?_
    rintro e w1 ⟨rfl, hb1⟩
    go_wp2_with fail
    refine (Order_ok N _ rfl (by omega) _).mono ?_
    rintro e w2 ⟨v2, rfl, ho2, hb2⟩
    obtain ⟨a2, c2, rfl, hi2, _⟩ := ints_of_owns ho2
    have hl : (rnk N).length = N := rnk_length N
    rw [hl]
    have HI := Lib.hid hi2
    have hz1 := hb1.size
    have HB := Lib.hid (hb1.trans (hb2.mono hz1))
    have HL := Lib.hid hl
    clear hi2 ho2 hb1 hb2 hl
    go_wp2
    go_loopg [8, 9] A (fun g i j wr => ∃ b : Nat, b = g ∧ b ≤ A ∧ i = .int .i64 b ∧ (∃ q, wr = w2.drewN q) ∧ Hid (anc A b = true))
    case atStart => exact ⟨A, rfl, Nat.le_refl _, rfl, ⟨0, rfl⟩, Lib.hid (anc_self _)⟩
    case round =>
      obtain ⟨b, rfl, hbA, rfl, ⟨q, rfl⟩, HA⟩ := hrel
      obtain ⟨b2, o2, x, rfl, hx, hc, _⟩ := HI.out.get (k := A) (by rw [HL.out]; exact h2)
      by_cases hb0 : b = 0
      · subst hb0
        have hxr : 0 ≤ x ∧ x < N := by
          have := hx.out; rw [rnk_get h2] at this; have := rk_lt h2; omega
        go_wp2
        go_ret
        exact ⟨rfl, below_drewN HB.out q⟩
      · obtain ⟨u, hu⟩ : ∃ u, u = (b - 1) / 2 := ⟨_, rfl⟩
        have hun : u < N := by omega
        obtain ⟨b3, o3, y, he3, hy, hc3, _⟩ := HI.out.get (k := u) (by rw [HL.out]; exact hun)
        cases he3
        have hb0' : 0 < b := by omega
        rw [hu] at hc3
        have hq1 : 0 ≤ ((b : Int) - 1) / 2 := by omega
        have hq2 : ((b : Int) - 1) / 2 < N := by omega
        by_cases hodd : b % 2 = 1
        ·
          have hlt : x < y := by
            have e1 := hx.out; rw [rnk_get h2] at e1
            have e2 := hy.out; rw [rnk_get hun] at e2
            have := rk_left (x := A) (u := u) h2 (by rw [show 2 * u + 1 = b by omega]; exact HA.out) hun
            omega
          have hd : decide (y ≤ x) = false := by simp; omega
          have ht : (b : Int).tmod 2 = 1 := by rw [Int.tmod_eq_emod_of_nonneg (by omega)]; omega
          have HM := Lib.hid hodd
          have HU := Lib.hid hu
          clear hu hodd
          go_wp2
          go_quiet (fail)
          go_wp2
          go_roundg u
          case measure => have := HM.out; have := HU.out; omega
          case rel => exact ⟨u, rfl, by have := HU.out; omega, by have := HM.out; have := HU.out; congr 1; omega, ⟨_, rfl⟩, Lib.hid (anc_above (c := b) (Or.inl (by have := HM.out; have := HU.out; omega)) HA.out)⟩
        ·
          have hlt : y < x := by
            have e1 := hx.out; rw [rnk_get h2] at e1
            have e2 := hy.out; rw [rnk_get hun] at e2
            have := rk_right (x := A) (u := u) h2 (by rw [show 2 * u + 2 = b by omega]; exact HA.out) hun
            omega
          have ht : (b : Int).tmod 2 = 0 := by rw [Int.tmod_eq_emod_of_nonneg (by omega)]; omega
          have HM := Lib.hid hodd
          have HU := Lib.hid hu
          clear hu hodd
          go_wp2
          go_quiet (fail)
          go_wp2
          go_roundg u
          case measure => have := HM.out; have := HU.out; omega
          case rel => exact ⟨u, rfl, by have := HU.out; omega, by have := HM.out; have := HU.out; congr 1; omega, ⟨_, rfl⟩, Lib.hid (anc_above (c := b) (Or.inr (by have := HM.out; have := HU.out; omega)) HA.out)⟩
end Go.Proofs.Ytcbeldemkfbliaa

/-
  HeapParts: an upper part has half of the levels, the lower ones have the others, and each lower part has as many leaves.
  No condition.
-/
import Derived.Test.YtbbacfhhkfgaoaaHeapAlive
namespace Go.Proofs.Ytbbacfhhkfgaoaa
open Go.RowKit Go.Shelf
set_option linter.unusedVariables false
set_option linter.unusedSimpArgs false

set_option maxHeartbeats 2000000 in
theorem HeapParts_walk (l : Int) (w : World) : Calls Try.prog 4 #[.int .i64 l] w fun e w' => e = .returned (.bool true) ∧ Below w.heap.size w w' := by
  by_cases h : spE l = 0
  · have hl : 2 ≤ l ∧ l ≤ 14 := by
      unfold spE at h
      split at h
      · split at h <;> omega
      · omega
    obtain ⟨h1, h2⟩ := hl
    have s1 : spU l = l / 2 := by rw [spU, h]; rfl
    have s2 : spL l = (l + 1) / 2 := by rw [spL, h]; rfl
    have S := fun w => Split_any l w
    rw [s1, s2, h] at S
    obtain ⟨u, hu⟩ : ∃ u : Nat, l / 2 = u := ⟨(l / 2).toNat, by omega⟩
    obtain ⟨d, hd⟩ : ∃ d : Nat, (l + 1) / 2 = d := ⟨((l + 1) / 2).toNat, by omega⟩
    rw [hu, hd] at S
    have hud : (l : Int) = u + d := by omega
    have hdu : d = u ∨ d = u + 1 := by omega
    have z1 := fun w => Size_ok u (by omega) (by omega) w
    have z2 := fun w => Size_ok d (by omega) (by omega) w
    have z3 := fun w => Size_ok l (by omega) (by omega) w
    obtain ⟨p1, p2⟩ := pow_bd u (by omega)
    obtain ⟨q1, q2⟩ := pow_bd d (by omega)
    have hsum : (2 : Int) ^ l.toNat = 2 ^ u * 2 ^ d := by rw [show l.toNat = u + d by omega, Int.pow_add]
    have hle : (2 : Int) ^ l.toNat ≤ 16384 := (pow_bdI l h2).2
    have hm : (2 : Int) ^ u * (2 ^ d - 1) = 2 ^ u * 2 ^ d - 2 ^ u := by rw [Int.mul_sub, Int.mul_one]
    have hfin : (2 : Int) ^ u - 1 + (2 ^ u - 1 + 1) * (2 ^ d - 1) = 2 ^ u * 2 ^ d - 1 := by rw [show (2 : Int) ^ u - 1 + 1 = 2 ^ u by omega, hm]; omega
    have hb0 : 0 ≤ (2 : Int) ^ u * (2 ^ d - 1) := Int.mul_nonneg (by omega) (by omega)
    have hb1 : (2 : Int) ^ u * (2 ^ d - 1) ≤ 16384 := by rw [hm]; omega
    simp only [Int.toNat_natCast] at z1 z2
    rw [hsum] at z3
    have e1 : (((2 : Int) ^ u - 1 + (2 ^ u - 1 + 1) * (2 ^ d - 1)) == 2 ^ u * 2 ^ d - 1) = true := by rw [hfin]; simp
    have e2 : ((u : Int) + (d : Int) == l) = true := by simp; omega
    have E3 : ((d : Int) == (u : Int)) = true ∨ (((d : Int) == (u : Int)) = false ∧ ((d : Int) == (u : Int) + 1) = true) := by
      rcases hdu with h | h
      · left; simp; omega
      · right; constructor <;> simp <;> omega
    have hu14 : u ≤ 7 ∧ d ≤ 8 := by omega
    have hu1 : 1 ≤ (u : Int) := by omega
    obtain ⟨hu7, hd8⟩ := hu14
    have S := Lib.hid S
    have Z1 := Lib.hid z1
    have Z2 := Lib.hid z2
    have Z3 := Lib.hid z3
    have hc1 : (2 : Int) ^ u - 1 + 1 = 2 ^ u := by omega
    generalize (2 : Int) ^ u = X at *
    generalize (2 : Int) ^ d = Y at *
    rw [hc1] at e1
    have hM : 0 ≤ X * Y ∧ X * Y ≤ 16384 := by omega
    obtain ⟨hM1, hM2⟩ := hM
    generalize X * Y = M2 at *
    clear hud hdu hsum hle hm hfin z1 z2 z3 h s1 s2 hu hd hc1
    rcases E3 with e3 | ⟨e3, e4⟩
    all_goals
      go_enter Try.func4, Try.ntmps4
      go_wp2_with fail
      refine (alive16 _).mono ?_
      rintro e w1 ⟨rfl, hb1⟩
      have hz_w1 := hb1.size
      try simp only [World.size_alloc, World.size_setCell] at hz_w1
      go_wp2_with fail
      refine (S.out _).mono ?_
      rintro e w' ⟨rfl, rfl⟩
      go_wp2_with fail
      refine (Z1.out _).mono ?_
      rintro e w' ⟨rfl, rfl⟩
      go_wp2_with fail
      refine (Z2.out _).mono ?_
      rintro e w' ⟨rfl, rfl⟩
      go_wp2_with fail
      refine (Z3.out _).mono ?_
      rintro e w' ⟨rfl, rfl⟩
      go_wp2
      go_ret
      exact ⟨rfl, by (repeat (first | (with_reducible exact Below.refl _ _) | (with_reducible assumption) | (with_reducible exact Hid.out (by with_reducible assumption)) | (with_reducible refine Below.alloc ?_ ?_ _) | (with_reducible refine Below.setCell ?_ ?_ _) | (with_reducible refine below_drewN ?_ _) | (with_reducible refine Below.drew ?_) | (with_reducible refine below_via (by with_reducible assumption) ?_ ?_) | (first | (with_reducible assumption) | omega | (simp only [World.size_alloc, World.size_setCell, World.size_drew, World.heap_drewN] <;> omega) | (simp <;> omega))))⟩
  · have hx : spU l = 0 ∧ spL l = 0 := by simp [spU, spL, h]
    have hl : l < 2 ∨ (2 ≤ l ∧ 14 < l) := by
      unfold spE at h
      split at h
      · split at h <;> omega
      · omega
    have S := fun w => Split_any l w
    rw [hx.1, hx.2] at S
    have e0 : (spE l != 0) = true := by simpa using h
    generalize spE l = x at *
    have S := Lib.hid S
    clear h hx
    rcases hl with h1 | ⟨h1, h2⟩
    all_goals
      go_enter Try.func4, Try.ntmps4
      go_wp2_with fail
      refine (alive16 _).mono ?_
      rintro e w1 ⟨rfl, hb1⟩
      have hz_w1 := hb1.size
      try simp only [World.size_alloc, World.size_setCell] at hz_w1
      go_wp2_with fail
      refine (S.out _).mono ?_
      rintro e w' ⟨rfl, rfl⟩
      go_wp2
      go_ret
      exact ⟨rfl, by (repeat (first | (with_reducible exact Below.refl _ _) | (with_reducible assumption) | (with_reducible exact Hid.out (by with_reducible assumption)) | (with_reducible refine Below.alloc ?_ ?_ _) | (with_reducible refine Below.setCell ?_ ?_ _) | (with_reducible refine below_drewN ?_ _) | (with_reducible refine Below.drew ?_) | (with_reducible refine below_via (by with_reducible assumption) ?_ ?_) | (first | (with_reducible assumption) | omega | (simp only [World.size_alloc, World.size_setCell, World.size_drew, World.heap_drewN] <;> omega) | (simp <;> omega))))⟩
end Go.Proofs.Ytbbacfhhkfgaoaa

/-
  HeapHalves: the leaves under a node are those under the two below it; under a leaf is the leaf itself.
  No condition.
-/
import Derived.Test.YtbbacfhhkfgaoaaHeapAlive
import Derived.Test.YtbbacfhhkfgaoaaHeapLaws
namespace Go.Proofs.Ytbbacfhhkfgaoaa
open Go.RowKit Go.Shelf
set_option linter.unusedVariables false
set_option linter.unusedSimpArgs false

set_option maxHeartbeats 2000000 in
theorem HeapHalves_walk (l n : Int) (w : World) : Calls Try.prog 3 #[.int .i64 l, .int .i64 n] w fun e w' => e = .returned (.bool true) ∧ Below w.heap.size w w' := by
  by_cases h : ndE l n = 0
  · obtain ⟨h1, h2, h3, h4⟩ := ndE_zero h
    have hp := (pow_bdI l h2).2
    obtain ⟨N, rfl⟩ := Int.eq_ofNat_of_zero_le (show 0 ≤ n by omega)
    have hN : (N : Int) ≤ 16384 := by omega
    have hA : unA l N = fst l N := by rw [unA, h]; rfl
    have hB : unB l N = fst l N + cnt l N := by rw [unB, h]; rfl
    have U := fun w => Under_gives l N w
    rw [hA, hB, h] at U
    have c1 : ((2 * N : Nat) : Int) = 2 * (N : Int) := by push_cast; rfl
    have c2 : ((2 * N + 1 : Nat) : Int) = 2 * (N : Int) + 1 := by push_cast; rfl
    have hbf : 0 ≤ fst l N ∧ fst l N ≤ 16384 * 16384 ∧ 0 ≤ cnt l N ∧ cnt l N ≤ 16384 := by
      obtain ⟨b1, b2, b3, b4, b5, b6, b7⟩ := under_bd h1 h2 h3 h4
      obtain ⟨p1, p2⟩ := pow_bd (l.toNat - 1) (by omega)
      have hge := under_ge (n := N) (t := l.toNat - 1 - N.log2) rfl (by omega)
      rw [show N.log2 + (l.toNat - 1 - N.log2) = l.toNat - 1 by simp only [Int.toNat_natCast] at b1; omega] at hge
      have e1 : ((2 ^ (l.toNat - 1) : Nat) : Int) = 2 ^ (l.toNat - 1) := by push_cast; rfl
      have e2 : ((N * 2 ^ (l.toNat - 1 - N.log2) : Nat) : Int) = (N : Int) * 2 ^ (l.toNat - 1 - N.log2) := by push_cast; rfl
      have hge2 : (2 : Int) ^ (l.toNat - 1) ≤ (N : Int) * 2 ^ (l.toNat - 1 - N.log2) := by rw [← e1, ← e2]; exact_mod_cast hge
      simp only [Int.toNat_natCast] at b4 b5 b6 b7
      simp only [fst, cnt, Int.toNat_natCast]
      generalize (N : Int) * 2 ^ (l.toNat - 1 - N.log2) = X at *
      generalize (2 : Int) ^ (l.toNat - 1 - N.log2) = Y at *
      generalize (2 : Int) ^ (l.toNat - 1) = Z at *
      omega
    by_cases hlt : N.log2 + 1 < l.toNat
    · obtain ⟨s1, s2, s3, s4, s5, s6, s7⟩ := und_step h hlt
      obtain ⟨x, hx⟩ : ∃ x, fst l N = x := ⟨_, rfl⟩
      obtain ⟨y, hy⟩ : ∃ y, cnt l (2 * N : Nat) = y := ⟨_, rfl⟩
      obtain ⟨z, hz⟩ : ∃ z, cnt l N = z := ⟨_, rfl⟩
      have a1 : unA l (2 * N : Nat) = x := by rw [unA, s1, if_pos rfl, s3, hx]
      have a2 : unB l (2 * N : Nat) = x + y := by rw [unB, s1, if_pos rfl, s3, hx, hy]
      have a3 : unA l (2 * N + 1 : Nat) = x + y := by rw [unA, s2, if_pos rfl, ← s4, s3, hx, hy]
      have a4 : unB l (2 * N + 1 : Nat) = x + z := by rw [unB, s2, if_pos rfl, s5, hx, hz]
      have hzy : z = y + y := by omega
      have U1 := fun w => Under_gives l (2 * N : Nat) w
      have U2 := fun w => Under_gives l (2 * N + 1 : Nat) w
      rw [a1, a2, s1, c1] at U1
      rw [a3, a4, s2, c2] at U2
      rw [hx, hz] at U
      rw [hx, hz] at hbf
      have e2 : (x == x) = true := by simp
      have e3 : (x + y == x + y) = true := by simp
      have e4 : (x + z == x + z) = true := by simp
      have e5 : (x + y - x == x + z - (x + y)) = true := by simp; omega
      obtain ⟨g1, g2, g3, g4⟩ := hbf
      have g5 : y ≤ z := by omega
      have g6 : 1 ≤ y := by omega
      clear c1 c2 s1 s2 s3 s4 s5 s6 s7 hA hB h4 hx hy hz a1 a2 a3 a4 h hzy
      have U := Lib.hid U
      have U1 := Lib.hid U1
      have U2 := Lib.hid U2
      go_enter Try.func3, Try.ntmps3
      go_wp2_with fail
      refine (alive16 _).mono ?_
      rintro e w1 ⟨rfl, hb1⟩
      have hz_w1 := hb1.size
      try simp only [World.size_alloc, World.size_setCell] at hz_w1
      go_wp2_with fail
      refine (U.out _).mono ?_
      rintro e w2 ⟨rfl, hb2⟩
      have hz_w2 := hb2.size
      try simp only [World.size_alloc, World.size_setCell] at hz_w2
      go_wp2_with fail
      refine (U1.out _).mono ?_
      rintro e w3 ⟨rfl, hb3⟩
      have hz_w3 := hb3.size
      try simp only [World.size_alloc, World.size_setCell] at hz_w3
      go_wp2_with fail
      refine (U2.out _).mono ?_
      rintro e w4 ⟨rfl, hb4⟩
      have hz_w4 := hb4.size
      try simp only [World.size_alloc, World.size_setCell] at hz_w4
      have hB4 : Below w.heap.size w w4 := by (repeat (first | (with_reducible exact Below.refl _ _) | (with_reducible assumption) | (with_reducible exact Hid.out (by with_reducible assumption)) | (with_reducible refine Below.alloc ?_ ?_ _) | (with_reducible refine Below.setCell ?_ ?_ _) | (with_reducible refine below_drewN ?_ _) | (with_reducible refine Below.drew ?_) | (with_reducible refine below_via (by with_reducible assumption) ?_ ?_) | (first | (with_reducible assumption) | omega | (simp only [World.size_alloc, World.size_setCell, World.size_drew, World.heap_drewN] <;> omega) | (simp <;> omega))))
      go_wp2
      go_ret
      exact ⟨rfl, hB4⟩
    · obtain ⟨s1, s2, s3, s4, s5⟩ := und_leaf h hlt
      have U1 := fun w => Under_gives l (2 * N : Nat) w
      have U2 := fun w => Under_gives l (2 * N + 1 : Nat) w
      have L := fun w => Leaf_any l (fst l N) w
      rw [unA, unB, s1] at U1
      rw [unA, unB, s2] at U2
      rw [s4, s5] at L
      rw [s3] at U
      rw [c1] at U1
      rw [c2] at U2
      obtain ⟨g1, g2, g3, g4⟩ := hbf
      have e4 : (fst l N + 1 == fst l N + 1) = true := by simp
      have e5 : ((N : Int) == (N : Int)) = true := by simp
      clear c1 c2 s1 s2 s3 s4 s5 hA hB h4 g3 g4 h
      generalize fst l N = x at *
      have U := Lib.hid U
      have U1 := Lib.hid U1
      have U2 := Lib.hid U2
      have L := Lib.hid L
      go_enter Try.func3, Try.ntmps3
      go_wp2_with fail
      refine (alive16 _).mono ?_
      rintro e w1 ⟨rfl, hb1⟩
      have hz_w1 := hb1.size
      try simp only [World.size_alloc, World.size_setCell] at hz_w1
      go_wp2_with fail
      refine (U.out _).mono ?_
      rintro e w2 ⟨rfl, hb2⟩
      have hz_w2 := hb2.size
      try simp only [World.size_alloc, World.size_setCell] at hz_w2
      go_wp2_with fail
      refine (U1.out _).mono ?_
      rintro e w3 ⟨rfl, hb3⟩
      have hz_w3 := hb3.size
      try simp only [World.size_alloc, World.size_setCell] at hz_w3
      go_wp2_with fail
      refine (U2.out _).mono ?_
      rintro e w4 ⟨rfl, hb4⟩
      have hz_w4 := hb4.size
      try simp only [World.size_alloc, World.size_setCell] at hz_w4
      have hB4 : Below w.heap.size w w4 := by (repeat (first | (with_reducible exact Below.refl _ _) | (with_reducible assumption) | (with_reducible exact Hid.out (by with_reducible assumption)) | (with_reducible refine Below.alloc ?_ ?_ _) | (with_reducible refine Below.setCell ?_ ?_ _) | (with_reducible refine below_drewN ?_ _) | (with_reducible refine Below.drew ?_) | (with_reducible refine below_via (by with_reducible assumption) ?_ ?_) | (first | (with_reducible assumption) | omega | (simp only [World.size_alloc, World.size_setCell, World.size_drew, World.heap_drewN] <;> omega) | (simp <;> omega))))
      go_wp2_with fail
      refine (L.out _).mono ?_
      rintro e w' ⟨rfl, rfl⟩
      go_wp2
      go_ret
      exact ⟨rfl, hB4⟩
  · have h2 := ndE_no h
    have U := fun w => Under_gives l n w
    rw [unA, unB, h2] at U
    have U := Lib.hid U
    clear h h2
    go_enter Try.func3, Try.ntmps3
    go_wp2_with fail
    refine (alive16 _).mono ?_
    rintro e w1 ⟨rfl, hb1⟩
    have hz_w1 := hb1.size
    try simp only [World.size_alloc, World.size_setCell] at hz_w1
    go_wp2_with fail
    refine (U.out _).mono ?_
    rintro e w2 ⟨rfl, hb2⟩
    have hz_w2 := hb2.size
    try simp only [World.size_alloc, World.size_setCell] at hz_w2
    have hB4 : Below w.heap.size w w2 := by (repeat (first | (with_reducible exact Below.refl _ _) | (with_reducible assumption) | (with_reducible exact Hid.out (by with_reducible assumption)) | (with_reducible refine Below.alloc ?_ ?_ _) | (with_reducible refine Below.setCell ?_ ?_ _) | (with_reducible refine below_drewN ?_ _) | (with_reducible refine Below.drew ?_) | (with_reducible refine below_via (by with_reducible assumption) ?_ ?_) | (first | (with_reducible assumption) | omega | (simp only [World.size_alloc, World.size_setCell, World.size_drew, World.heap_drewN] <;> omega) | (simp <;> omega))))
    go_wp2
    go_ret
    exact ⟨rfl, hB4⟩
end Go.Proofs.Ytbbacfhhkfgaoaa

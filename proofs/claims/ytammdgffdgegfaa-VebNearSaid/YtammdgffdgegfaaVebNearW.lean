/-
  VebNear: in a tree of 1, 2, 4 or 8 levels a path goes through few runs.
  No condition.
-/
import Derived.Test.YtammdgffdgegfaaVebAlive
namespace Go.Proofs.Ytammdgffdgegfaa
open Go.RowKit Go.Shelf
set_option linter.unusedVariables false
set_option linter.unusedSimpArgs false

/-- the runs of all paths of a small tree, reckoned -/
def chk (L m : Nat) : Bool := (List.range (2 ^ L)).all fun n => n == 0 || (decide (1 ≤ nearF L n (2 ^ m - 1)) && decide (nearF L n (2 ^ m - 1) ≤ 2 * L / m))
theorem chk_11 : chk 1 1 = true := by decide +kernel
theorem chk_21 : chk 2 1 = true := by decide +kernel
theorem chk_22 : chk 2 2 = true := by decide +kernel
theorem chk_41 : chk 4 1 = true := by decide +kernel
theorem chk_42 : chk 4 2 = true := by decide +kernel
theorem chk_44 : chk 4 4 = true := by decide +kernel
theorem chk_81 : chk 8 1 = true := by decide +kernel
theorem chk_82 : chk 8 2 = true := by decide +kernel
theorem chk_84 : chk 8 4 = true := by decide +kernel
theorem chk_88 : chk 8 8 = true := by decide +kernel

theorem near_few {L m : Nat} (h : chk L m = true) (hL : L ≤ 8) (n : Int) (run : Int) (hr : run = ((2 ^ m - 1 : Nat) : Int)) (he : nrE L n run = 0) : 1 ≤ nrR L n run ∧ nrR L n run ≤ (2 * L / m : Nat) := by
  have hnd : ndE L n = 0 := by
    unfold nrE at he
    split at he
    · rename_i h; exact h.1
    · omega
  obtain ⟨h1, h2, h3, h4⟩ := ndE_zero hnd
  obtain ⟨N, rfl⟩ := Int.eq_ofNat_of_zero_le (show 0 ≤ n by omega)
  simp only [Int.toNat_natCast] at h4
  rw [← pow_cast] at h4
  have hN : N < 2 ^ L := by omega
  have h14 : 2 ^ L ≤ 2 ^ 8 := Nat.pow_le_pow_right (by omega) hL
  have hx := List.all_eq_true.1 h N (List.mem_range.2 hN)
  have hN0 : (N == 0) = false := by simp; omega
  rw [hN0, Bool.false_or, Bool.and_eq_true, decide_eq_true_eq, decide_eq_true_eq] at hx
  subst hr
  rw [nrR, he, if_pos rfl, Int.toNat_natCast, Int.toNat_natCast, nearF_eq (by omega)]
  omega
theorem near_none {L : Nat} (h1 : 1 ≤ L) (hL : L ≤ 8) (n run : Int) (hr : 1 ≤ run) (he : ¬ nrE L n run = 0) : nrE L n run = 2 ∧ nrR L n run = 0 ∧ (n < 1 ∨ (1 ≤ n ∧ (2 : Int) ^ L ≤ n)) := by
  have h2 : nrE L n run = 2 := by 
    unfold nrE at *
    split at he
    · exact absurd rfl he
    · rename_i k; rw [if_neg k]
  refine ⟨h2, by rw [nrR, h2]; rfl, ?_⟩
  by_cases h : 1 ≤ n
  · right
    refine ⟨h, ?_⟩
    by_cases h3 : n < 2 ^ L
    · exact absurd (nrE_ok (ndE_ok (by omega) (by omega) h (by simpa using h3)) hr) he
    · omega
  · left; omega

set_option maxRecDepth 100000 in
set_option maxHeartbeats 4000000 in
theorem VebNear_walk (w : World) (p q : Int) (hp : 0 ≤ p ∧ p ≤ 255) (hq : 0 ≤ q ∧ q ≤ 255) (n : Int) :
    Calls Try.prog 7 #[.agg #[.int .u8 p, .int .u8 q], .int .i64 n] w fun e w' => e = .returned (.bool true) ∧ Below w.heap.size w w' := by
  obtain ⟨p0, p1⟩ := hp
  obtain ⟨q0, q1⟩ := hq
  by_cases hp3 : p ≤ 3
  · by_cases hqp : q ≤ p
    · have main : ∀ (a b L m : Nat), p = a → q = b → 2 ^ a = L → 2 ^ b = m → 1 ≤ L → L ≤ 8 → 1 ≤ m → m ≤ 8 → chk L m = true → a ≤ 3 → b ≤ a →
          Calls Try.prog 7 #[.agg #[.int .u8 p, .int .u8 q], .int .i64 n] w fun e w' => e = .returned (.bool true) ∧ Below w.heap.size w w' := by
        intro a b L m ha hb hL hm L1 L8 m1 m8 hchk ha3 hba
        subst ha hb
        have hLi : (2 : Int) ^ a = (L : Int) := by rw [← hL]; push_cast; rfl
        have hmi : (2 : Int) ^ b = (m : Int) := by rw [← hm]; push_cast; rfl
        have hpm := pow_nat m
        have hb2 : 2 ≤ 2 ^ m := by have := Nat.pow_le_pow_right (n := 2) (by omega) m1; omega
        have hb8 : 2 ^ m ≤ 2 ^ 8 := Nat.pow_le_pow_right (by omega) m8
        have hL8 : 2 ^ L ≤ 2 ^ 8 := Nat.pow_le_pow_right (by omega) L8
        have hLc := pow_cast L
        have hmc := pow_cast m
        have hrun : 1 ≤ ((2 ^ m - 1 : Nat) : Int) := by omega
        have N := fun w => Near_any L n ((2 ^ m - 1 : Nat) : Int) w
        have hf := near_few hchk L8 n _ rfl
        have hz := near_none L1 L8 n _ hrun
        rw [hpm] at N hf hz
        have k1 : 2 ≤ (2 : Int) ^ m := by omega
        have k2 : (2 : Int) ^ m ≤ 256 := by omega
        have k3 : 1 ≤ (2 : Int) ^ L := (pow_bd L (by omega)).1
        have k4 : (2 : Int) ^ L ≤ 256 := by omega
        have hdiv : ((2 * L / m : Nat) : Int) = 2 * (L : Int) / (m : Int) := by push_cast; rfl
        rw [hdiv] at hf
        have d1 : ¬ ((a : Int) > 3) := by omega
        have d2 : ¬ ((b : Int) > (a : Int)) := by omega
        have hm0 : (m : Int) ≠ 0 := by omega
        generalize nrR L n (2 ^ m - 1) = y at *
        by_cases he : nrE L n (2 ^ m - 1) = 0
        · obtain ⟨f1, f2⟩ := hf he
          rw [he] at N
          have N := Lib.hid N
          clear hf hz he hdiv hchk hL hm hpm hb2 hb8 hL8 hLc hmc hrun
          go_enter Try.func7, Try.ntmps7
          go_wp2_with fail
          refine (alive17 _).mono ?_
          rintro e w1 ⟨rfl, hb1⟩
          have hz_w1 := hb1.size
          try simp only [World.size_alloc, World.size_setCell] at hz_w1
          have c_t0 : w1.cell? ⟨w.heap.size, 0, none⟩ = some (.int .u8 a) := (hb1.cell (p := ⟨w.heap.size, 0, none⟩) (by (first | (with_reducible assumption) | omega | (simp only [World.size_alloc, World.size_setCell, World.size_drew, World.heap_drewN] <;> omega) | (simp <;> omega)))).trans (by (first | (with_reducible assumption) | ((try simp (disch := first | omega | (simp only [World.size_alloc, World.size_setCell, World.size_drew, World.heap_drewN] <;> omega) | fail) only [World.cell?_alloc_past, World.cell?_alloc_at, World.frozen?_alloc_past, World.frozen?_alloc_at, World.frozen?_setCell, World.cell?_drew, World.frozen?_drew]) <;> first | (with_reducible assumption) | rfl)))
          have c_t1 : w1.cell? ⟨w.heap.size, 1, none⟩ = some (.int .u8 b) := (hb1.cell (p := ⟨w.heap.size, 1, none⟩) (by (first | (with_reducible assumption) | omega | (simp only [World.size_alloc, World.size_setCell, World.size_drew, World.heap_drewN] <;> omega) | (simp <;> omega)))).trans (by (first | (with_reducible assumption) | ((try simp (disch := first | omega | (simp only [World.size_alloc, World.size_setCell, World.size_drew, World.heap_drewN] <;> omega) | fail) only [World.cell?_alloc_past, World.cell?_alloc_at, World.frozen?_alloc_past, World.frozen?_alloc_at, World.frozen?_setCell, World.cell?_drew, World.frozen?_drew]) <;> first | (with_reducible assumption) | rfl)))
          have z_t : w.heap.size < w1.heap.size := by omega
          go_wp2
          go_quiet (fail)
          go_wp2_with fail
          refine (N.out _).mono ?_
          rintro e w2 ⟨rfl, hb2⟩
          go_wp2
          go_ret
          refine ⟨rfl, ?_⟩
          have h5 : Below w.heap.size w w1 := ((Below.refl _ _).alloc (Nat.le_refl _) _).trans (hb1.mono (by simp))
          exact (below_drewN h5 _).trans (hb2.mono (by have := h5.size; simpa using this))
        · obtain ⟨f1, f2, f3⟩ := hz he
          rw [f1] at N
          have N := Lib.hid N
          clear hf hz he hdiv hchk hL hm hpm hb2 hb8 hL8 hLc hmc hrun f1
          rcases f3 with f3 | ⟨f3, f4⟩
          all_goals
            go_enter Try.func7, Try.ntmps7
            go_wp2_with fail
            refine (alive17 _).mono ?_
            rintro e w1 ⟨rfl, hb1⟩
            have hz_w1 := hb1.size
            try simp only [World.size_alloc, World.size_setCell] at hz_w1
            have c_t0 : w1.cell? ⟨w.heap.size, 0, none⟩ = some (.int .u8 a) := (hb1.cell (p := ⟨w.heap.size, 0, none⟩) (by (first | (with_reducible assumption) | omega | (simp only [World.size_alloc, World.size_setCell, World.size_drew, World.heap_drewN] <;> omega) | (simp <;> omega)))).trans (by (first | (with_reducible assumption) | ((try simp (disch := first | omega | (simp only [World.size_alloc, World.size_setCell, World.size_drew, World.heap_drewN] <;> omega) | fail) only [World.cell?_alloc_past, World.cell?_alloc_at, World.frozen?_alloc_past, World.frozen?_alloc_at, World.frozen?_setCell, World.cell?_drew, World.frozen?_drew]) <;> first | (with_reducible assumption) | rfl)))
            have c_t1 : w1.cell? ⟨w.heap.size, 1, none⟩ = some (.int .u8 b) := (hb1.cell (p := ⟨w.heap.size, 1, none⟩) (by (first | (with_reducible assumption) | omega | (simp only [World.size_alloc, World.size_setCell, World.size_drew, World.heap_drewN] <;> omega) | (simp <;> omega)))).trans (by (first | (with_reducible assumption) | ((try simp (disch := first | omega | (simp only [World.size_alloc, World.size_setCell, World.size_drew, World.heap_drewN] <;> omega) | fail) only [World.cell?_alloc_past, World.cell?_alloc_at, World.frozen?_alloc_past, World.frozen?_alloc_at, World.frozen?_setCell, World.cell?_drew, World.frozen?_drew]) <;> first | (with_reducible assumption) | rfl)))
            have z_t : w.heap.size < w1.heap.size := by omega
            go_wp2
            go_quiet (fail)
            go_wp2_with fail
            refine (N.out _).mono ?_
            rintro e w2 ⟨rfl, hb2⟩
            go_wp2
            go_ret
            refine ⟨rfl, ?_⟩
            have h5 : Below w.heap.size w w1 := ((Below.refl _ _).alloc (Nat.le_refl _) _).trans (hb1.mono (by simp))
            exact (below_drewN h5 _).trans (hb2.mono (by have := h5.size; simpa using this))
      have hpc : p = 0 ∨ p = 1 ∨ p = 2 ∨ p = 3 := by omega
      have hqc : q = 0 ∨ q = 1 ∨ q = 2 ∨ q = 3 := by omega
      rcases hpc with rfl | rfl | rfl | rfl
      · obtain rfl : q = 0 := by omega
        exact main 0 0 1 1 rfl rfl rfl rfl (by decide) (by decide) (by decide) (by decide) chk_11 (by decide) (by decide)
      · rcases hqc with rfl | rfl | rfl | rfl
        · exact main 1 0 2 1 rfl rfl rfl rfl (by decide) (by decide) (by decide) (by decide) chk_21 (by decide) (by decide)
        · exact main 1 1 2 2 rfl rfl rfl rfl (by decide) (by decide) (by decide) (by decide) chk_22 (by decide) (by decide)
        · omega
        · omega
      · rcases hqc with rfl | rfl | rfl | rfl
        · exact main 2 0 4 1 rfl rfl rfl rfl (by decide) (by decide) (by decide) (by decide) chk_41 (by decide) (by decide)
        · exact main 2 1 4 2 rfl rfl rfl rfl (by decide) (by decide) (by decide) (by decide) chk_42 (by decide) (by decide)
        · exact main 2 2 4 4 rfl rfl rfl rfl (by decide) (by decide) (by decide) (by decide) chk_44 (by decide) (by decide)
        · omega
      · rcases hqc with rfl | rfl | rfl | rfl
        · exact main 3 0 8 1 rfl rfl rfl rfl (by decide) (by decide) (by decide) (by decide) chk_81 (by decide) (by decide)
        · exact main 3 1 8 2 rfl rfl rfl rfl (by decide) (by decide) (by decide) (by decide) chk_82 (by decide) (by decide)
        · exact main 3 2 8 4 rfl rfl rfl rfl (by decide) (by decide) (by decide) (by decide) chk_84 (by decide) (by decide)
        · exact main 3 3 8 8 rfl rfl rfl rfl (by decide) (by decide) (by decide) (by decide) chk_88 (by decide) (by decide)
    · have d2 : p < q := by omega
      go_enter Try.func7, Try.ntmps7
      go_wp2_with fail
      refine (alive17 _).mono ?_
      rintro e w1 ⟨rfl, hb1⟩
      have hz_w1 := hb1.size
      try simp only [World.size_alloc, World.size_setCell] at hz_w1
      have c_t0 : w1.cell? ⟨w.heap.size, 0, none⟩ = some (.int .u8 p) := (hb1.cell (p := ⟨w.heap.size, 0, none⟩) (by (first | (with_reducible assumption) | omega | (simp only [World.size_alloc, World.size_setCell, World.size_drew, World.heap_drewN] <;> omega) | (simp <;> omega)))).trans (by (first | (with_reducible assumption) | ((try simp (disch := first | omega | (simp only [World.size_alloc, World.size_setCell, World.size_drew, World.heap_drewN] <;> omega) | fail) only [World.cell?_alloc_past, World.cell?_alloc_at, World.frozen?_alloc_past, World.frozen?_alloc_at, World.frozen?_setCell, World.cell?_drew, World.frozen?_drew]) <;> first | (with_reducible assumption) | rfl)))
      have c_t1 : w1.cell? ⟨w.heap.size, 1, none⟩ = some (.int .u8 q) := (hb1.cell (p := ⟨w.heap.size, 1, none⟩) (by (first | (with_reducible assumption) | omega | (simp only [World.size_alloc, World.size_setCell, World.size_drew, World.heap_drewN] <;> omega) | (simp <;> omega)))).trans (by (first | (with_reducible assumption) | ((try simp (disch := first | omega | (simp only [World.size_alloc, World.size_setCell, World.size_drew, World.heap_drewN] <;> omega) | fail) only [World.cell?_alloc_past, World.cell?_alloc_at, World.frozen?_alloc_past, World.frozen?_alloc_at, World.frozen?_setCell, World.cell?_drew, World.frozen?_drew]) <;> first | (with_reducible assumption) | rfl)))
      have z_t : w.heap.size < w1.heap.size := by omega
      go_wp2
      go_ret
      exact ⟨rfl, ((Below.refl _ _).alloc (Nat.le_refl _) _).trans (hb1.mono (by simp))⟩
  · have d2 : 3 < p := by omega
    go_enter Try.func7, Try.ntmps7
    go_wp2_with fail
    refine (alive17 _).mono ?_
    rintro e w1 ⟨rfl, hb1⟩
    have hz_w1 := hb1.size
    try simp only [World.size_alloc, World.size_setCell] at hz_w1
    have c_t0 : w1.cell? ⟨w.heap.size, 0, none⟩ = some (.int .u8 p) := (hb1.cell (p := ⟨w.heap.size, 0, none⟩) (by (first | (with_reducible assumption) | omega | (simp only [World.size_alloc, World.size_setCell, World.size_drew, World.heap_drewN] <;> omega) | (simp <;> omega)))).trans (by (first | (with_reducible assumption) | ((try simp (disch := first | omega | (simp only [World.size_alloc, World.size_setCell, World.size_drew, World.heap_drewN] <;> omega) | fail) only [World.cell?_alloc_past, World.cell?_alloc_at, World.frozen?_alloc_past, World.frozen?_alloc_at, World.frozen?_setCell, World.cell?_drew, World.frozen?_drew]) <;> first | (with_reducible assumption) | rfl)))
    have c_t1 : w1.cell? ⟨w.heap.size, 1, none⟩ = some (.int .u8 q) := (hb1.cell (p := ⟨w.heap.size, 1, none⟩) (by (first | (with_reducible assumption) | omega | (simp only [World.size_alloc, World.size_setCell, World.size_drew, World.heap_drewN] <;> omega) | (simp <;> omega)))).trans (by (first | (with_reducible assumption) | ((try simp (disch := first | omega | (simp only [World.size_alloc, World.size_setCell, World.size_drew, World.heap_drewN] <;> omega) | fail) only [World.cell?_alloc_past, World.cell?_alloc_at, World.frozen?_alloc_past, World.frozen?_alloc_at, World.frozen?_setCell, World.cell?_drew, World.frozen?_drew]) <;> first | (with_reducible assumption) | rfl)))
    have z_t : w.heap.size < w1.heap.size := by omega
    go_wp2
    go_ret
    exact ⟨rfl, ((Below.refl _ _).alloc (Nat.le_refl _) _).trans (hb1.mono (by simp))⟩
end Go.Proofs.Ytammdgffdgegfaa

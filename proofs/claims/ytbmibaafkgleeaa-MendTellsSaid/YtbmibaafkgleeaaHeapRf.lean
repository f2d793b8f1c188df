/- Merged: HeapHas, HeapSz, HeapRef, HeapUnder, HeapUnd. -/
import Derived.Test.YtbmibaafkgleeaaHeapH
import Derived.Test.YtbmibaafkgleeaaHeapDp
import Derived.Test.YtbmibaafkgleeaaHeapUF
namespace Go.Proofs.Ytbmibaafkgleeaa
set_option linter.unusedVariables false
set_option linter.unusedSimpArgs false
section
open Go.RowKit

theorem Has_yes (l n : Int) (h : ndE l n = 0) (w : World) :
    Calls Try.prog 111 #[.int .i64 l, .int .i64 n] w fun e w' => e = .returned (.bool true) ∧ w = w' := by
  obtain ⟨h1, h2, h3, h4⟩ := ndE_zero h
  obtain ⟨hp1, hp2⟩ := pow_bdI l h2
  have h5 : n ≤ 2 ^ l.toNat - 1 := by omega
  have h6 : decide (n < 2 ^ l.toNat) = true := by simpa using h4
  clear h h4
  go_enter Try.func111, Try.ntmps111
  go_wp2_with (first
    | (go_at_call 80; refine (Is16_yes _ h1 h2 _).mono ?_; rintro e w' ⟨rfl, rfl⟩)
    | (go_at_call 81; refine (Many16_ok _ (by omega) h2 _).mono ?_; rintro e w' ⟨rfl, rfl⟩))
  go_ret
  exact ⟨by simp <;> omega, rfl⟩
theorem Has_no (l n : Int) (h : ¬ ndE l n = 0) (w : World) :
    Calls Try.prog 111 #[.int .i64 l, .int .i64 n] w fun e w' => e = .returned (.bool false) ∧ w = w' := by
  by_cases hl : 1 ≤ l ∧ l ≤ 14
  · obtain ⟨h1, h2⟩ := hl
    obtain ⟨hp1, hp2⟩ := pow_bdI l h2
    by_cases h3 : 1 ≤ n
    · have h4 : 2 ^ l.toNat ≤ n := by
        by_cases h5 : n < 2 ^ l.toNat
        · exact absurd (ndE_ok h1 h2 h3 h5) h
        · omega
      have h5 : ¬ (n ≤ 2 ^ l.toNat - 1) := by omega
      clear h
      go_enter Try.func111, Try.ntmps111
      go_wp2_with (first
        | (go_at_call 80; refine (Is16_yes _ h1 h2 _).mono ?_; rintro e w' ⟨rfl, rfl⟩)
        | (go_at_call 81; refine (Many16_ok _ (by omega) h2 _).mono ?_; rintro e w' ⟨rfl, rfl⟩))
      go_ret
      exact ⟨by simp <;> omega, rfl⟩
    · clear h
      go_enter Try.func111, Try.ntmps111
      go_wp2_with (go_at_call 80; refine (Is16_yes _ h1 h2 _).mono ?_; rintro e w' ⟨rfl, rfl⟩)
      go_ret
      exact ⟨by simp <;> omega, rfl⟩
  · clear h
    go_enter Try.func111, Try.ntmps111
    go_wp2_with (go_at_call 80; refine (Is16_no _ (by omega) _).mono ?_; rintro e w' ⟨rfl, rfl⟩)
    go_ret
    exact ⟨rfl, rfl⟩
end

section
open Go.RowKit

end

section
open Go.RowKit Go.Shelf
attribute [local go_sem] Oper.semAt_some

end

section
open Go.RowKit Go.Shelf
attribute [local go_sem] Oper.semAt_some

/-- the shifts of Under, in the walk's own bounds -/
theorem under_bd {l n : Int} (h1 : 1 ≤ l) (h2 : l ≤ 14) (h3 : 1 ≤ n) (h4 : n < 2 ^ l.toNat) :
    (n.toNat.log2 : Nat) < l.toNat ∧ 0 ≤ l - ((n.toNat.log2 + 1 : Nat) : Int) ∧ (l - ((n.toNat.log2 + 1 : Nat) : Int)).toNat = l.toNat - 1 - n.toNat.log2 ∧
    1 ≤ (2 : Int) ^ (l.toNat - 1 - n.toNat.log2) ∧ (2 : Int) ^ (l.toNat - 1 - n.toNat.log2) ≤ 16384 ∧ 1 ≤ n * 2 ^ (l.toNat - 1 - n.toNat.log2) ∧ n * 2 ^ (l.toNat - 1 - n.toNat.log2) ≤ 268435456 := by
  have hlt : n.toNat.log2 < l.toNat := by
    refine log2_lt_of (by omega) ?_
    have e : ((2 ^ l.toNat : Nat) : Int) = 2 ^ l.toNat := by push_cast; rfl
    omega
  obtain ⟨q1, q2⟩ := pow_bd (l.toNat - 1 - n.toNat.log2) (by omega)
  obtain ⟨p1, p2⟩ := pow_bd l.toNat (by omega)
  refine ⟨hlt, by omega, by omega, q1, q2, ?_, ?_⟩
  · have := Int.mul_le_mul h3 q1 (by omega) (by omega)
    simpa using this
  · have := Int.mul_le_mul (show n ≤ 16384 by omega) q2 (by omega) (by omega)
    omega

end

section
open Go.RowKit Go.Shelf
attribute [local go_sem] Oper.semAt_some

/-- where a node of so many levels stands: ahead of the last level, or on it -/
theorem under_lt {n d j t : Nat} (h1 : n.log2 = d) (hn : 1 ≤ n) (h2 : j < t) : n * 2 ^ j < 2 ^ (d + t) := by
  subst h1
  have h3 : n < 2 ^ (n.log2 + 1) := (Nat.log2_lt (by omega)).1 (Nat.lt_succ_self _)
  calc n * 2 ^ j < 2 ^ (n.log2 + 1) * 2 ^ j := Nat.mul_lt_mul_of_pos_right h3 (Nat.two_pow_pos j)
    _ = 2 ^ (n.log2 + 1 + j) := by rw [← Nat.pow_add]
    _ ≤ 2 ^ (n.log2 + t) := Nat.pow_le_pow_right (by omega) (by omega)
theorem under_ge {n d t : Nat} (h1 : n.log2 = d) (hn : 1 ≤ n) : 2 ^ (d + t) ≤ n * 2 ^ t := by
  subst h1
  rw [Nat.pow_add]
  exact Nat.mul_le_mul_right _ ((Nat.le_log2 (by omega)).1 (Nat.le_refl _))

set_option maxHeartbeats 400000 in
theorem Under16_any (l n : Int) (w : World) :
    Calls Try.prog 87 #[.int .i64 l, .int .i64 n] w fun e w' => e = .returned (.tuple #[.int .i64 (unA l n), .int .i64 (unB l n), .int .i64 (ndE l n)]) ∧ w = w' := by
  by_cases h : ndE l n = 0
  · obtain ⟨h1, h2, h3, h4⟩ := ndE_zero h
    have hp := (pow_bdI l h2).2
    obtain ⟨N, rfl⟩ := Int.eq_ofNat_of_zero_le (show 0 ≤ n by omega)
    have hlt := (under_bd h1 h2 h3 h4).1
    simp only [Int.toNat_natCast] at hlt
    obtain ⟨t, ht⟩ : ∃ t, t = l.toNat - 1 - N.log2 := ⟨_, rfl⟩
    have hA : unA l N = N * 2 ^ t - 2 ^ (l.toNat - 1) := by rw [unA, h, fst, ht]; rfl
    have hB : unB l N = N * 2 ^ t - 2 ^ (l.toNat - 1) + 2 ^ t := by rw [unB, h, fst, cnt, ht]; rfl
    have HH := Lib.hid (fun w => Has_yes l N h w)
    have HF := Lib.hid (fun w => First_ok l h1 h2 w)
    obtain ⟨p1, p2⟩ := pow_bd (l.toNat - 1) (by omega)
    have hN : N < 16384 := by omega
    rw [hA, hB, h]
    have hpc : ((2 ^ (l.toNat - 1) : Nat) : Int) = 2 ^ (l.toNat - 1) := by push_cast; rfl
    have hsum : N.log2 + t = l.toNat - 1 := by omega
    have ht14 : t ≤ 13 := by omega
    have key1 : ∀ j, j < t → (N : Int) * 2 ^ j < 2 ^ (l.toNat - 1) := by
      intro j hj
      have := under_lt (n := N) rfl (by omega) hj
      rw [hsum] at this
      have e : ((N * 2 ^ j : Nat) : Int) = (N : Int) * 2 ^ j := by push_cast; rfl
      rw [← e, ← hpc]; omega
    have key2 : (2 : Int) ^ (l.toNat - 1) ≤ (N : Int) * 2 ^ t := by
      have := under_ge (n := N) (t := t) rfl (by omega)
      rw [hsum] at this
      have e : ((N * 2 ^ t : Nat) : Int) = (N : Int) * 2 ^ t := by push_cast; rfl
      rw [← e, ← hpc]; omega
    have K1 := Lib.hid key1
    have K2 := Lib.hid key2
    clear h hA hB ht hpc hsum hlt h4 hp key1 key2
    generalize (2 : Int) ^ (l.toNat - 1) = F at *
    go_enter Try.func87, Try.ntmps87
    go_wp2_with fail
    refine (HH.out _).mono ?_
    rintro e w' ⟨rfl, rfl⟩
    go_wp2
    go_loopg [7, 8] t (fun g a b wr => ∃ j : Nat, j + g = t ∧ a = .int .i64 ((N : Int) * 2 ^ j) ∧ b = .int .i64 ((N : Int) * 2 ^ j + 2 ^ j - 1) ∧ wr = w)
    case atStart => exact ⟨0, by omega, by simp, by simp, rfl⟩
    case round =>
      obtain ⟨j, hj, rfl, rfl, rfl⟩ := hrel
      obtain ⟨q1, q2⟩ := pow_bd j (by omega)
      have e1 : (N : Int) * 2 ^ (j + 1) = 2 * ((N : Int) * 2 ^ j) := by rw [Int.pow_succ, ← Int.mul_assoc, Int.mul_comm]
      have e2 : (2 : Int) ^ (j + 1) = 2 * 2 ^ j := by rw [Int.pow_succ, Int.mul_comm]
      have hm1 : (N : Int) * 2 ^ j ≤ 16384 * 16384 := Int.mul_le_mul (by omega) q2 (by omega) (by omega)
      have hm0 : 0 ≤ (N : Int) * 2 ^ j := Int.mul_nonneg (by omega) (by omega)
      by_cases hlt : j < t
      · have hc := K1.out j hlt
        obtain ⟨X, hX⟩ : ∃ X, (N : Int) * 2 ^ j = X := ⟨_, rfl⟩
        obtain ⟨Y, hY⟩ : ∃ Y, (2 : Int) ^ j = Y := ⟨_, rfl⟩
        rw [hX] at hm1 hm0 hc e1
        rw [hY] at q1 q2 e2
        have E := Lib.hid (And.intro e1 e2)
        rw [hX, hY]
        clear e1 e2 hX hY
        go_wp2_with (go_at_call 45; refine (HF.out _).mono ?_; rintro e w' ⟨rfl, rfl⟩)
        go_roundg (gk - 1)
        case measure => omega
        case rel =>
          obtain ⟨e1, e2⟩ := E.out
          exact ⟨j + 1, by omega, by rw [e1], by rw [e1, e2]; go_num, rfl⟩
      · obtain rfl : j = t := by omega
        have hc := K2.out
        obtain ⟨X, hX⟩ : ∃ X, (N : Int) * 2 ^ j = X := ⟨_, rfl⟩
        obtain ⟨Y, hY⟩ : ∃ Y, (2 : Int) ^ j = Y := ⟨_, rfl⟩
        rw [hX] at hm1 hm0 hc
        rw [hY] at q1 q2
        rw [hX, hY]
        have e3 : (N : Int) * 2 ^ j - F + 2 ^ j = X + Y - 1 - F + 1 := by rw [hX, hY]; omega
        have E3 := Lib.hid (And.intro e3 (show (N : Int) * 2 ^ j - F = X - F by rw [hX]))
        clear e1 e2 hX hY e3
        go_wp2_with (go_at_call 45; refine (HF.out _).mono ?_; rintro e w' ⟨rfl, rfl⟩)
        go_ret3
        exact ⟨by rw [E3.out.1, E3.out.2]; rfl, rfl⟩
  · have h2 := ndE_no h
    have hA : unA l n = 0 := by rw [unA, h2]; rfl
    have hB : unB l n = 0 := by rw [unB, h2]; rfl
    have HH := Lib.hid (fun w => Has_no l n h w)
    rw [hA, hB, h2]
    clear h h2 hA hB
    go_enter Try.func87, Try.ntmps87
    go_wp2_with fail
    refine (HH.out _).mono ?_
    rintro e w' ⟨rfl, rfl⟩
    go_wp2
    go_ret3
    exact ⟨rfl, rfl⟩
end
end Go.Proofs.Ytbmibaafkgleeaa

/-
  EytzBack: a place of a rank has that rank, neighbours stand a rank beside.
  No condition.
-/
import Derived.Test.YtcbeldemkfbliaaEytzAlive
namespace Go.Proofs.Ytcbeldemkfbliaa
open Go.RowKit Go.Shelf
set_option linter.unusedVariables false

theorem rk_place {n a : Int} (h : eErr n a = 0) : eErr n (eyRank n a) = 0 ∧ eyPlace n (eyRank n a) = a ∧ 0 ≤ eyRank n a ∧ eyRank n a < n ∧ eyRank n a < 65536 := by
  obtain ⟨h1, h2, h3, h4⟩ := eErr_zero h
  obtain ⟨N, rfl⟩ := Int.eq_ofNat_of_zero_le h1
  obtain ⟨A, rfl⟩ := Int.eq_ofNat_of_zero_le h3
  have hr : eyRank N A = (rk N A : Nat) := by simp [eyRank, h]
  have hA : A < N := by omega
  have hl := rk_lt hA
  rw [hr]
  have he : eErr N (rk N A : Nat) = 0 := eErr_in h (by omega) (by omega)
  refine ⟨he, ?_, by omega, by omega, by omega⟩
  simp only [eyPlace, he, if_pos, Int.toNat_natCast]
  rw [ord_rk hA]
theorem next_rank {n a : Int} (h : eErr n a = 0) :
    (eyNext n a = (0, 6) ∧ eyRank n a = n - 1) ∨ (∃ y, eyNext n a = (y, 0) ∧ eErr n y = 0 ∧ eyRank n y = eyRank n a + 1 ∧ eyRank n a < n - 1) := by
  obtain ⟨h1, h2, h3, h4⟩ := eErr_zero h
  obtain ⟨N, rfl⟩ := Int.eq_ofNat_of_zero_le h1
  obtain ⟨A, rfl⟩ := Int.eq_ofNat_of_zero_le h3
  have hr : eyRank N A = (rk N A : Nat) := by simp [eyRank, h]
  have hA : A < N := by omega
  have hx : eyNext N A = opt2 (nxt N A) := by simp [eyNext, h]
  rw [hr, hx]
  cases hn : nxt N A with
  | none => left; have := rk_nxt_none hA hn; exact ⟨rfl, by omega⟩
  | some p =>
    right
    have h5 := rk_nxt hA hn
    have h6 := nxt_lt hA hn
    have he : eErr N (p : Nat) = 0 := eErr_in h (by omega) (by omega)
    have h7 := rk_lt h6
    refine ⟨p, rfl, he, ?_, by omega⟩
    simp only [eyRank, he, if_pos, Int.toNat_natCast]
    omega
theorem last_rank {n a : Int} (h : eErr n a = 0) :
    (eyLast n a = (0, 6) ∧ eyRank n a = 0) ∨ (∃ y, eyLast n a = (y, 0) ∧ eErr n y = 0 ∧ eyRank n y = eyRank n a - 1 ∧ 0 < eyRank n a) := by
  obtain ⟨h1, h2, h3, h4⟩ := eErr_zero h
  obtain ⟨N, rfl⟩ := Int.eq_ofNat_of_zero_le h1
  obtain ⟨A, rfl⟩ := Int.eq_ofNat_of_zero_le h3
  have hr : eyRank N A = (rk N A : Nat) := by simp [eyRank, h]
  have hA : A < N := by omega
  have hx : eyLast N A = opt2 (prv N A) := by simp [eyLast, h]
  rw [hr, hx]
  cases hn : prv N A with
  | none => left; have := rk_prv_none hn; exact ⟨rfl, by omega⟩
  | some p =>
    right
    have h5 := rk_prv hn
    have h6 := prv_lt hA hn
    have he : eErr N (p : Nat) = 0 := eErr_in h (by omega) (by omega)
    refine ⟨p, rfl, he, ?_, by omega⟩
    simp only [eyRank, he, if_pos, Int.toNat_natCast]
    omega

set_option maxHeartbeats 1000000 in
theorem EytzBack_walk (n a : Int) (w : World) :
    Calls Try.prog 7 #[.int .i64 n, .int .i64 a] w fun e w' => e = .returned (.bool true) ∧ Below w.heap.size w w' := by
  by_cases hbig : 3000 < n
  · go_enter Try.func7, Try.ntmps7
    go_wp2_with fail
    refine (alive22 _).mono ?_
    rintro e w1 ⟨rfl, hb1⟩
    go_wp2
    go_ret
    exact ⟨rfl, hb1⟩
  · by_cases h : eErr n a = 0
    · have hP := rk_place h
      have hN := next_rank h
      have hL := last_rank h
      have H1 := fun w => Rank_any n a w
      rw [h] at H1
      have H3 := fun w => Next_any n a w
      have H4 := fun w => Last_any n a w
      obtain ⟨r, hr⟩ : ∃ r, eyRank n a = r := ⟨_, rfl⟩
      rw [hr] at hP hN hL H1
      have H2 := fun w => Place_any n r w
      rw [hP.1, hP.2.1] at H2
      have hb := hP.2.2
      have R1 := Lib.hid H1
      have R2 := Lib.hid H2
      have hsame : (a != a) = false := by simp
      clear hP hr H1 H2 h
      rcases hN with ⟨hn, hrn⟩ | ⟨y, hn, hny, hry, hrn⟩
      · rw [hn] at H3
        have R3 := Lib.hid H3
        rcases hL with ⟨hl, hrl⟩ | ⟨z, hl, hlz, hrz, hrl⟩
        · rw [hl] at H4
          have R4 := Lib.hid H4
          clear H3 H4 hn hl
          have t1 : ¬ (r < n - 1) := by omega
          have R5 := Lib.hid (fun w => Rank_any n 0 w)
          have t2 : ¬ (0 < r) := by omega
          have R6 := Lib.hid (fun w => Rank_any n 0 w)
          have HH := Lib.hid hrn
          have HH2 := Lib.hid hrl
          clear hrn hrl
          go_enter Try.func7, Try.ntmps7
          go_wp2_with fail
          refine (alive22 _).mono ?_
          rintro e w1 ⟨rfl, hb1⟩
          go_wp2_with fail
          refine (R1.out _).mono ?_
          rintro e w2 ⟨rfl, hb2⟩
          go_wp2_with fail
          refine (R2.out _).mono ?_
          rintro e w3 ⟨rfl, hb3⟩
          go_wp2_with fail
          refine (R3.out _).mono ?_
          rintro e w4 ⟨rfl, hb4⟩
          go_wp2_with fail
          refine (R4.out _).mono ?_
          rintro e w5 ⟨rfl, hb5⟩
          go_wp2_with fail
          refine (R5.out _).mono ?_
          rintro e w6 ⟨rfl, hb6⟩
          go_wp2_with fail
          refine (R6.out _).mono ?_
          rintro e w7 ⟨rfl, hb7⟩
          go_wp2
          go_ret
          have hz1 := hb1.size; have hz2 := hb2.size; have hz3 := hb3.size; have hz4 := hb4.size; have hz5 := hb5.size; have hz6 := hb6.size; have hz7 := hb7.size
          exact ⟨by simp, ((((((hb1.trans (hb2.mono (by omega))).trans (hb3.mono (by omega))).trans (hb4.mono (by omega))).trans (hb5.mono (by omega))).trans (hb6.mono (by omega))).trans (hb7.mono (by omega)))⟩
        · rw [hl] at H4
          have R4 := Lib.hid H4
          clear H3 H4 hn hl
          have t1 : ¬ (r < n - 1) := by omega
          have R5 := Lib.hid (fun w => Rank_any n 0 w)
          have t2 : 0 < r := hrl
          have R6 := Lib.hid (fun w => Rank_any n z w)
          rw [hrz, hlz] at R6
          have q2 : (r - 1 == r - 1) = true := by simp
          clear hlz hrz
          have HH := Lib.hid hrn
          clear hrn hrl
          go_enter Try.func7, Try.ntmps7
          go_wp2_with fail
          refine (alive22 _).mono ?_
          rintro e w1 ⟨rfl, hb1⟩
          go_wp2_with fail
          refine (R1.out _).mono ?_
          rintro e w2 ⟨rfl, hb2⟩
          go_wp2_with fail
          refine (R2.out _).mono ?_
          rintro e w3 ⟨rfl, hb3⟩
          go_wp2_with fail
          refine (R3.out _).mono ?_
          rintro e w4 ⟨rfl, hb4⟩
          go_wp2_with fail
          refine (R4.out _).mono ?_
          rintro e w5 ⟨rfl, hb5⟩
          go_wp2_with fail
          refine (R5.out _).mono ?_
          rintro e w6 ⟨rfl, hb6⟩
          go_wp2_with fail
          refine (R6.out _).mono ?_
          rintro e w7 ⟨rfl, hb7⟩
          go_wp2
          go_ret
          have hz1 := hb1.size; have hz2 := hb2.size; have hz3 := hb3.size; have hz4 := hb4.size; have hz5 := hb5.size; have hz6 := hb6.size; have hz7 := hb7.size
          exact ⟨by simp, ((((((hb1.trans (hb2.mono (by omega))).trans (hb3.mono (by omega))).trans (hb4.mono (by omega))).trans (hb5.mono (by omega))).trans (hb6.mono (by omega))).trans (hb7.mono (by omega)))⟩
      · rw [hn] at H3
        have R3 := Lib.hid H3
        rcases hL with ⟨hl, hrl⟩ | ⟨z, hl, hlz, hrz, hrl⟩
        · rw [hl] at H4
          have R4 := Lib.hid H4
          clear H3 H4 hn hl
          have t1 : r < n - 1 := hrn
          have R5 := Lib.hid (fun w => Rank_any n y w)
          rw [hry, hny] at R5
          have t2 : ¬ (0 < r) := by omega
          have R6 := Lib.hid (fun w => Rank_any n 0 w)
          have q1 : (r + 1 == r + 1) = true := by simp
          clear hny hry
          have HH2 := Lib.hid hrl
          clear hrn hrl
          go_enter Try.func7, Try.ntmps7
          go_wp2_with fail
          refine (alive22 _).mono ?_
          rintro e w1 ⟨rfl, hb1⟩
          go_wp2_with fail
          refine (R1.out _).mono ?_
          rintro e w2 ⟨rfl, hb2⟩
          go_wp2_with fail
          refine (R2.out _).mono ?_
          rintro e w3 ⟨rfl, hb3⟩
          go_wp2_with fail
          refine (R3.out _).mono ?_
          rintro e w4 ⟨rfl, hb4⟩
          go_wp2_with fail
          refine (R4.out _).mono ?_
          rintro e w5 ⟨rfl, hb5⟩
          go_wp2_with fail
          refine (R5.out _).mono ?_
          rintro e w6 ⟨rfl, hb6⟩
          go_wp2_with fail
          refine (R6.out _).mono ?_
          rintro e w7 ⟨rfl, hb7⟩
          go_wp2
          go_ret
          have hz1 := hb1.size; have hz2 := hb2.size; have hz3 := hb3.size; have hz4 := hb4.size; have hz5 := hb5.size; have hz6 := hb6.size; have hz7 := hb7.size
          exact ⟨by simp, ((((((hb1.trans (hb2.mono (by omega))).trans (hb3.mono (by omega))).trans (hb4.mono (by omega))).trans (hb5.mono (by omega))).trans (hb6.mono (by omega))).trans (hb7.mono (by omega)))⟩
        · rw [hl] at H4
          have R4 := Lib.hid H4
          clear H3 H4 hn hl
          have t1 : r < n - 1 := hrn
          have R5 := Lib.hid (fun w => Rank_any n y w)
          rw [hry, hny] at R5
          have t2 : 0 < r := hrl
          have R6 := Lib.hid (fun w => Rank_any n z w)
          rw [hrz, hlz] at R6
          have q1 : (r + 1 == r + 1) = true := by simp
          clear hny hry
          have q2 : (r - 1 == r - 1) = true := by simp
          clear hlz hrz
          clear hrn hrl
          go_enter Try.func7, Try.ntmps7
          go_wp2_with fail
          refine (alive22 _).mono ?_
          rintro e w1 ⟨rfl, hb1⟩
          go_wp2_with fail
          refine (R1.out _).mono ?_
          rintro e w2 ⟨rfl, hb2⟩
          go_wp2_with fail
          refine (R2.out _).mono ?_
          rintro e w3 ⟨rfl, hb3⟩
          go_wp2_with fail
          refine (R3.out _).mono ?_
          rintro e w4 ⟨rfl, hb4⟩
          go_wp2_with fail
          refine (R4.out _).mono ?_
          rintro e w5 ⟨rfl, hb5⟩
          go_wp2_with fail
          refine (R5.out _).mono ?_
          rintro e w6 ⟨rfl, hb6⟩
          go_wp2_with fail
          refine (R6.out _).mono ?_
          rintro e w7 ⟨rfl, hb7⟩
          go_wp2
          go_ret
          have hz1 := hb1.size; have hz2 := hb2.size; have hz3 := hb3.size; have hz4 := hb4.size; have hz5 := hb5.size; have hz6 := hb6.size; have hz7 := hb7.size
          exact ⟨by simp, ((((((hb1.trans (hb2.mono (by omega))).trans (hb3.mono (by omega))).trans (hb4.mono (by omega))).trans (hb5.mono (by omega))).trans (hb6.mono (by omega))).trans (hb7.mono (by omega)))⟩
    · have hz : eyRank n a = 0 := by simp [eyRank, h]
      have hne : (eErr n a != 0) = true := by simpa using h
      have H1 := fun w => Rank_any n a w
      rw [hz] at H1
      have R1 := Lib.hid H1
      clear h hz H1
      go_enter Try.func7, Try.ntmps7
      go_wp2_with fail
      refine (alive22 _).mono ?_
      rintro e w1 ⟨rfl, hb1⟩
      go_wp2_with fail
      refine (R1.out _).mono ?_
      rintro e w2 ⟨rfl, hb2⟩
      go_wp2
      go_ret
      exact ⟨rfl, hb1.trans (hb2.mono hb1.size)⟩
end Go.Proofs.Ytcbeldemkfbliaa

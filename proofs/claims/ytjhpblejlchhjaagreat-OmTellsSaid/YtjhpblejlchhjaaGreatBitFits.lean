/- Merged: BitFns, Fits. -/
import Derived.Test.YtjhpblejlchhjaaGreatBitsSl
import Derived.Test.YtjhpblejlchhjaaGreatHeapH
namespace Go.Proofs.YtjhpblejlchhjaaGreat
set_option maxRecDepth 100000
set_option maxHeartbeats 4000000
set_option linter.unusedVariables false
set_option linter.unusedSimpArgs false
section
open Go.RowKit

theorem Ones_ok (x : Int) (h0 : 0 ≤ x) (h1 : x < 18446744073709551616) (w : World) :
    Calls Tryz.prog 104 #[.int .u64 x] w fun e w' => e = .returned (.int .i64 (popI x)) ∧ w = w' := by
  go_enter Tryz.func104, Tryz.ntmps104
  go_wp2
  go_ret
  refine ⟨?_, rfl⟩
  show Ending.returned (.int .i64 _) = _
  refine congrArg (fun z => Ending.returned (Value.int .i64 z)) ?_
  obtain ⟨n, rfl⟩ := Int.eq_ofNat_of_zero_le h0
  have hn : n < 18446744073709551616 := by omega
  have l1 : ∀ b, b < 256 → s1 b < 256 := fun b hb => (byte1 ⟨b, hb⟩).2
  have l2 : ∀ b, b < 256 → s2 b < 256 := fun b hb => (byte2 ⟨b, hb⟩).2.2.2.2
  have b1 := mapB_lt l1 8 n
  rw [← S1_eq 8 n (by omega)] at b1
  have b2 := mapB_small 8 n
  rw [← mapB_comp l1, ← S1_eq 8 n (by omega), ← S2_eq 8 _ b1] at b2
  have b3 := smallB_lt 8 _ b2
  have hs := S_all 8 n (by omega)
  obtain ⟨z1, z2, z3, e1, e2, e3, e4, q0, q1, q2, q3⟩ := fold_bytes n
  rw [ones1 hn, ones2 (by omega), ones3 (by omega), hs]
  have w1 : IntKind.u64.wrap (((mapB pop8 8 n : Nat) : Int) + ((mapB pop8 8 n : Nat) : Int) / 256) = (z1 : Int) := by rw [IntKind.wrap_u64]; omega
  have w2 : IntKind.u64.wrap ((z1 : Int) + (z1 : Int) / 65536) = (z2 : Int) := by rw [IntKind.wrap_u64]; omega
  have w3 : IntKind.u64.wrap ((z2 : Int) + (z2 : Int) / 4294967296) = (z3 : Int) := by rw [IntKind.wrap_u64]; omega
  rw [w1, w2, w3]
  have w4 : wrap64 (z3 : Int) = z3 := IntWalk.wrap64_in _ (by omega)
  rw [w4, show (127 : Int) = ((127 : Nat) : Int) from rfl, bits_and_i64_nat _ _ q3 (by omega), show 127 = 2 ^ 7 - 1 from rfl, Nat.and_two_pow_sub_one_eq_mod, popI_eq (by omega), Int.toNat_natCast, ← e4]

theorem Power_ok (n : Int) (h1 : n ≤ 9223372036854775807) (w : World) :
    Calls Tryz.prog 96 #[.int .i64 n] w fun e w' => e = .returned (.bool (pwB n)) ∧ w = w' := by
  by_cases h : 0 < n
  · obtain ⟨m, rfl⟩ := Int.eq_ofNat_of_zero_le (show 0 ≤ n by omega)
    have e2 := bits_and_i64_nat m (m - 1) (by omega) (by omega)
    have e3 : pwB (m : Int) = (((m &&& (m - 1) : Nat) : Int) == 0) := by
      unfold pwB
      rw [decide_eq_true h, Bool.true_and, Int.toNat_natCast, Bool.eq_iff_iff]
      simp
    rw [e3]
    go_enter Tryz.func96, Tryz.ntmps96
    go_wp2
    go_ret
    refine ⟨?_, rfl⟩
    show Ending.returned (.bool _) = _
    rw [show (m : Int) - 1 = ((m - 1 : Nat) : Int) by omega, e2]
  · rw [pwB_neg (by omega)]
    go_enter Tryz.func96, Tryz.ntmps96
    go_wp2
    go_ret
    exact ⟨rfl, rfl⟩

theorem Log_any (n : Nat) (ni : Int) (hn : ni = n) (h1 : n ≤ 65536) (w : World) :
    Calls Tryz.prog 100 #[.int .i64 ni] w fun e w' => e = .returned (.int .i64 (n.log2 : Nat)) ∧ w = w' := by
  subst hn
  go_enter Tryz.func100, Tryz.ntmps100
  go_wp2
  go_loopg [0, 3] n (fun g x i wr => ∃ (b k : Nat), b = g ∧ b ≤ n ∧ x = .int .i64 b ∧ i = .int .i64 k ∧ k + b.log2 = n.log2 ∧ wr = w)
  case atStart => exact ⟨n, 0, rfl, Nat.le_refl _, rfl, rfl, by omega, rfl⟩
  case round =>
    obtain ⟨b, k, rfl, hbn, rfl, rfl, hk, rfl⟩ := hrel
    have hlog : n.log2 ≤ n := Nat.log2_le_self n
    have hkb : k ≤ 65536 := by omega
    by_cases h : 2 ≤ b
    · have h2 := log2_two h
      have H2 := Lib.hid (And.intro h2 hk)
      clear h2 hk hlog
      go_wp2
      go_roundg (b / 2)
      case measure => omega
      case rel => exact ⟨b / 2, k + 1, rfl, by omega, by go_num, by go_num, by have := H2.out; omega, rfl⟩
    · have h2 := log2_one (n := b) (by omega)
      have H2 := Lib.hid (And.intro h2 hk)
      clear h2 hk hlog
      go_wp2
      go_ret
      exact ⟨ret_int (by have := H2.out; omega), rfl⟩
theorem Pow_any (k : Nat) (ki : Int) (hk : ki = k) (h1 : k ≤ 40) (w : World) :
    Calls Tryz.prog 114 #[.int .i64 ki] w fun e w' => e = .returned (.int .i64 ((2 ^ k : Nat) : Int)) ∧ w = w' := by
  subst hk
  go_enter Tryz.func114, Tryz.ntmps114
  go_wp2
  go_loopg [3, 4] k (fun gk p i wr => ∃ j q : Nat, j + gk = k ∧ i = .int .i64 j ∧ p = .int .i64 q ∧ q = 2 ^ j ∧ wr = w)
  case atStart => exact ⟨0, 1, by omega, rfl, rfl, rfl, rfl⟩
  case round =>
    obtain ⟨j, q, hj, rfl, rfl, hq, rfl⟩ := hrel
    have hb : q ≤ 2 ^ 40 := by rw [hq]; exact Nat.pow_le_pow_right (by omega) (by omega)
    have HQ := Lib.hid hq
    clear hq
    by_cases h : j < k
    · go_wp2
      go_roundg (gk - 1)
      case measure => omega
      case rel => exact ⟨j + 1, 2 * q, by omega, by go_num, by go_num, by rw [HQ.out, Nat.pow_succ]; omega, rfl⟩
    · obtain rfl : j = k := by omega
      go_wp2
      go_ret
      exact ⟨ret_int (by rw [HQ.out]), rfl⟩
theorem Power01_ok (n : Int) (h1 : n ≤ 65536) (w : World) :
    Calls Tryz.prog 99 #[.int .i64 n] w fun e w' => e = .returned (.bool (pwB n)) ∧ w = w' := by
  by_cases h : 1 ≤ n
  · obtain ⟨m, rfl⟩ := Int.eq_ofNat_of_zero_le (show 0 ≤ n by omega)
    have hl : m.log2 ≤ 16 := by
      have : m.log2 < 17 := (Nat.log2_lt (by omega)).2 (by omega)
      omega
    have L1 := Lib.hid (fun w => Log_any m m rfl (by omega) w)
    have P1 := Lib.hid (fun w => Pow_any m.log2 m.log2 rfl (by omega) w)
    have e : pwB (m : Int) = (((2 ^ m.log2 : Nat) : Int) == (m : Int)) := by
      rw [Bool.eq_iff_iff, pwB_iff (by omega), beq_iff_eq]
      omega
    rw [e]
    generalize ((2 ^ m.log2 : Nat) : Int) = z at *
    generalize m.log2 = q at *
    clear e
    go_enter Tryz.func99, Tryz.ntmps99
    go_wp2_with (first
      | (go_at_call 100; refine (L1.out _).mono ?_; rintro e w' ⟨rfl, rfl⟩)
      | (go_at_call 114; refine (P1.out _).mono ?_; rintro e w' ⟨rfl, rfl⟩))
    go_ret
    exact ⟨rfl, rfl⟩
  · rw [pwB_neg (by omega)]
    go_enter Tryz.func99, Tryz.ntmps99
    go_wp2
    go_ret
    exact ⟨rfl, rfl⟩
end

section
open Go.RowKit

theorem fits_ok (seg many : Int) (w : World) :
    Calls Tryz.prog 75 #[.int .i64 seg, .int .i64 many] w fun e w' => e = .returned (.bool (fitB seg many)) ∧ w = w' := by
  by_cases c1 : 4 ≤ seg
  · by_cases c2 : seg ≤ 64
    · have PW := Lib.hid Power_ok
      obtain ⟨b1, hb1⟩ : ∃ b, pwB seg = b := ⟨_, rfl⟩
      cases b1 with
      | false =>
        have e : fitB seg many = false := by simp [fitB, hb1]
        rw [e]
        clear e
        go_enter Tryz.func75, Tryz.ntmps75
        go_wp2_with (go_at_call 96; refine (PW.out _ (by omega) _).mono ?_; rintro e w' ⟨rfl, rfl⟩; rw [hb1])
        go_ret
        exact ⟨rfl, rfl⟩
      | true =>
        by_cases c4 : seg ≤ many
        · by_cases c5 : many ≤ 65536
          · obtain ⟨r, hr⟩ : ∃ r, many % seg = r := ⟨_, rfl⟩
            obtain ⟨q, hq⟩ : ∃ q, many / seg = q := ⟨_, rfl⟩
            have hq2 : q ≤ 65536 := by rw [← hq]; exact Int.le_trans (Int.ediv_le_self _ (by omega)) c5
            have hq0 : 0 ≤ q := by rw [← hq]; exact Int.ediv_nonneg (by omega) (by omega)
            have ht1 : many.tmod seg = r := by rw [Int.tmod_eq_emod_of_nonneg (by omega)]; exact hr
            have ht2 : many.tdiv seg = q := by rw [Int.tdiv_eq_ediv_of_nonneg (by omega)]; exact hq
            have hs0 : (seg == 0) = false := by simp; omega
            by_cases c6 : r = 0
            · have e : fitB seg many = pwB q := by simp [fitB, hb1, hr, hq, c1, c2, c4, c5, c6]
              rw [e]
              subst c6
              clear e
              go_enter Tryz.func75, Tryz.ntmps75
              go_wp2_with (go_at_call 96; refine (PW.out _ (by omega) _).mono ?_; rintro e w' ⟨rfl, rfl⟩; try rw [hb1])
              go_ret
              exact ⟨rfl, rfl⟩
            · have e : fitB seg many = false := by simp [fitB, hb1, hr, c6]
              rw [e]
              have c6' : (r == 0) = false := by simpa using c6
              clear e
              go_enter Tryz.func75, Tryz.ntmps75
              go_wp2_with (go_at_call 96; refine (PW.out _ (by omega) _).mono ?_; rintro e w' ⟨rfl, rfl⟩; rw [hb1])
              go_ret
              exact ⟨rfl, rfl⟩
          · have e : fitB seg many = false := by simp [fitB, c5]
            rw [e]
            clear e
            go_enter Tryz.func75, Tryz.ntmps75
            go_wp2_with (go_at_call 96; refine (PW.out _ (by omega) _).mono ?_; rintro e w' ⟨rfl, rfl⟩; rw [hb1])
            go_ret
            exact ⟨rfl, rfl⟩
        · have e : fitB seg many = false := by simp [fitB, c4]
          rw [e]
          clear e
          go_enter Tryz.func75, Tryz.ntmps75
          go_wp2_with (go_at_call 96; refine (PW.out _ (by omega) _).mono ?_; rintro e w' ⟨rfl, rfl⟩; rw [hb1])
          go_ret
          exact ⟨rfl, rfl⟩
    · have e : fitB seg many = false := by simp [fitB, c2]
      rw [e]
      clear e
      go_enter Tryz.func75, Tryz.ntmps75
      go_wp2
      go_ret
      exact ⟨rfl, rfl⟩
  · have e : fitB seg many = false := by simp [fitB, c1]
    rw [e]
    clear e
    go_enter Tryz.func75, Tryz.ntmps75
    go_wp2
    go_ret
    exact ⟨rfl, rfl⟩
theorem Fits04_ok (seg many : Int) (w : World) :
    Calls Tryz.prog 107 #[.int .i64 seg, .int .i64 many] w fun e w' => e = .returned (.bool (fitB seg many)) ∧ w = w' := by
  by_cases c1 : 4 ≤ seg
  · by_cases c2 : seg ≤ 64
    · have PW := Lib.hid Power01_ok
      obtain ⟨b1, hb1⟩ : ∃ b, pwB seg = b := ⟨_, rfl⟩
      cases b1 with
      | false =>
        have e : fitB seg many = false := by simp [fitB, hb1]
        rw [e]
        clear e
        go_enter Tryz.func107, Tryz.ntmps107
        go_wp2_with (go_at_call 99; refine (PW.out _ (by omega) _).mono ?_; rintro e w' ⟨rfl, rfl⟩; rw [hb1])
        go_ret
        exact ⟨rfl, rfl⟩
      | true =>
        have hm0 : seg ≤ many ∨ many < seg := by omega
        by_cases c4 : seg ≤ many
        · by_cases c5 : many ≤ 65536
          · obtain ⟨r, hr⟩ : ∃ r, many % seg = r := ⟨_, rfl⟩
            obtain ⟨q, hq⟩ : ∃ q, many / seg = q := ⟨_, rfl⟩
            have hq2 : q ≤ 65536 := by rw [← hq]; exact Int.le_trans (Int.ediv_le_self _ (by omega)) c5
            have hq0 : 0 ≤ q := by rw [← hq]; exact Int.ediv_nonneg (by omega) (by omega)
            have ht1 : many.tmod seg = r := by rw [Int.tmod_eq_emod_of_nonneg (by omega)]; exact hr
            have ht2 : many.tdiv seg = q := by rw [Int.tdiv_eq_ediv_of_nonneg (by omega)]; exact hq
            have hs0 : (seg == 0) = false := by simp; omega
            by_cases c6 : r = 0
            · have e : fitB seg many = pwB q := by simp [fitB, hb1, hr, hq, c1, c2, c4, c5, c6]
              rw [e]
              subst c6
              clear e
              go_enter Tryz.func107, Tryz.ntmps107
              go_wp2_with (go_at_call 99; refine (PW.out _ (by omega) _).mono ?_; rintro e w' ⟨rfl, rfl⟩; try rw [hb1])
              go_ret
              exact ⟨rfl, rfl⟩
            · have e : fitB seg many = false := by simp [fitB, hb1, hr, c6]
              rw [e]
              have c6' : (r == 0) = false := by simpa using c6
              clear e
              go_enter Tryz.func107, Tryz.ntmps107
              go_wp2_with (go_at_call 99; refine (PW.out _ (by omega) _).mono ?_; rintro e w' ⟨rfl, rfl⟩; rw [hb1])
              go_ret
              exact ⟨rfl, rfl⟩
          · have e : fitB seg many = false := by simp [fitB, c5]
            rw [e]
            clear e
            go_enter Tryz.func107, Tryz.ntmps107
            go_wp2_with (go_at_call 99; refine (PW.out _ (by omega) _).mono ?_; rintro e w' ⟨rfl, rfl⟩; rw [hb1])
            go_ret
            exact ⟨rfl, rfl⟩
        · have e : fitB seg many = false := by simp [fitB, c4]
          rw [e]
          clear e
          have ht1 : 1 ≤ many → many.tmod seg = many := fun h => by rw [Int.tmod_eq_emod_of_nonneg (by omega)]; exact Int.emod_eq_of_lt (by omega) (by omega)
          by_cases c7 : 1 ≤ many
          · replace ht1 := ht1 c7
            have c7' : (many == 0) = false := by simp; omega
            have hs0 : (seg == 0) = false := by simp; omega
            have c8 : many ≤ 65536 := by omega
            go_enter Tryz.func107, Tryz.ntmps107
            go_wp2_with (go_at_call 99; refine (PW.out _ (by omega) _).mono ?_; rintro e w' ⟨rfl, rfl⟩; rw [hb1])
            go_ret
            exact ⟨rfl, rfl⟩
          · clear ht1
            go_enter Tryz.func107, Tryz.ntmps107
            go_wp2_with (go_at_call 99; refine (PW.out _ (by omega) _).mono ?_; rintro e w' ⟨rfl, rfl⟩; rw [hb1])
            go_ret
            exact ⟨rfl, rfl⟩
    · have e : fitB seg many = false := by simp [fitB, c2]
      rw [e]
      clear e
      go_enter Tryz.func107, Tryz.ntmps107
      go_wp2
      go_ret
      exact ⟨rfl, rfl⟩
  · have e : fitB seg many = false := by simp [fitB, c1]
    rw [e]
    clear e
    go_enter Tryz.func107, Tryz.ntmps107
    go_wp2
    go_ret
    exact ⟨rfl, rfl⟩
theorem Down_ok (n : Nat) (ni : Int) (hn : ni = n) (h0 : 1 ≤ n) (h1 : n ≤ 65536) (w : World) :
    Calls Tryz.prog 97 #[.int .i64 ni] w fun e w' => e = .returned (.tuple #[.int .i64 (n.log2 : Nat), .int .i64 0]) ∧ w = w' := by
  subst hn
  have hlog : n.log2 ≤ n := Nat.log2_le_self n
  have HL := Lib.hid hlog
  clear hlog
  go_enter Tryz.func97, Tryz.ntmps97
  go_wp2
  refine wp_scope_loop 0 (fun g a' w' => w' = w ∧ ∃ b k : Nat, b = g ∧ b ≤ n ∧ 1 ≤ b ∧ k + b.log2 = n.log2 ∧ ∃ u : Nat → Value, a' = { tmps := #[.int .i64 b, u 1, .int .i64 k, u 3, u 4, u 5, u 6, u 7, u 8, u 9, u 10, u 11, u 12], defers := [] }) rfl ?_ ?_
  · rintro g a wo ⟨rfl, b, k, rfl, hbn, hb1, hk, u, rfl⟩ H hH
    have hkb : k ≤ 65536 := by have := HL.out; omega
    by_cases h : 2 ≤ b
    · have h2 := log2_two h
      have H2 := Lib.hid (And.intro h2 hk)
      clear h2 hk
      go_wp2
      refine wp_goto ?_
      refine show (0 = 0 ∧ H _ _) from ⟨rfl, hH (b / 2) _ _ (by omega) ⟨rfl, b / 2, k + 1, rfl, by omega, by omega, by have := H2.out; omega, frame_mk _ _ _ ?_⟩⟩
      rw [show ((b / 2 : Nat) : Int) = (b : Int) / 2 by omega, show ((k + 1 : Nat) : Int) = (k : Int) + 1 by omega]
      rfl
    · have h2 := log2_one (n := b) (by omega)
      have hkl : k = n.log2 := by omega
      subst hkl
      have hb : b = 1 := by omega
      subst hb
      clear h2 hk
      go_wp2
      simp only [Exit.jump]
      go_ret2
      exact ⟨rfl, rfl⟩
  · intro H hH hpass
    go_wp2
    refine wp_label ?_
    go_step
    go_step
    refine hpass n _ _ ?_
    exact ⟨rfl, n, 0, rfl, Nat.le_refl _, h0, by omega, frame_mk _ _ _ rfl⟩
end
end Go.Proofs.YtjhpblejlchhjaaGreat

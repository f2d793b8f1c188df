/- Walks of package eytz, up to its iterator. -/
import Derived.Test.YtcbeldemkfbliaaRange
import Derived.Test.YtcbeldemkfbliaaEytzPlain
namespace Go.Proofs.Ytcbeldemkfbliaa
open Go.RowKit
set_option linter.unusedVariables false

theorem asked_ok (n : Int) (h0 : 0 ≤ n) (h1 : n ≤ 65536) (w : World) :
    Calls Try.prog 21 #[.int .i64 n] w fun e w' => e = .returned (.int .i64 0) ∧ w = w' := by
  go_enter Try.func21, Try.ntmps21
  go_wp2
  go_ret
  exact ⟨rfl, rfl⟩
theorem asked_neg (n : Int) (h0 : n < 0) (w : World) :
    Calls Try.prog 21 #[.int .i64 n] w fun e w' => e = .returned (.int .i64 2) ∧ w = w' := by
  go_enter Try.func21, Try.ntmps21
  go_wp2
  go_ret
  exact ⟨rfl, rfl⟩
theorem asked_many (n : Int) (h0 : 65536 < n) (w : World) :
    Calls Try.prog 21 #[.int .i64 n] w fun e w' => e = .returned (.int .i64 4) ∧ w = w' := by
  go_enter Try.func21, Try.ntmps21
  go_wp2
  go_ret
  exact ⟨rfl, rfl⟩

theorem leftmost_ok (n a : Nat) (ni ai : Int) (hn : ni = n) (ha : ai = a) (h0 : a < n) (h1 : n ≤ 65536) (w : World) :
    Calls Try.prog 30 #[.int .i64 ni, .int .i64 ai] w fun e w' => e = .returned (.int .i64 (lm n a)) ∧ w = w' := by
  subst hn ha
  go_enter Try.func30, Try.ntmps30
  go_wp2
  go_loopg [1] (n - a) (fun g i wr => ∃ b : Nat, g = n - b ∧ b < n ∧ i = .int .i64 b ∧ wr = w ∧ lm n b = lm n a)
  case atStart => exact ⟨a, rfl, h0, rfl, rfl, rfl⟩
  case round =>
    obtain ⟨b, hb, hbn, rfl, rfl, hlm⟩ := hrel
    have HL := Lib.hid hlm
    have HG := Lib.hid hb
    clear hlm hb
    by_cases h : 2 * b + 1 < n
    · go_wp2
      go_roundg (n - (2 * b + 1))
      case measure => have := HG.out; omega
      case rel => exact ⟨2 * b + 1, rfl, by omega, by go_num, rfl, by rw [← lm_in h]; exact HL.out⟩
    · go_wp2
      go_ret
      exact ⟨ret_int (by rw [← HL.out, lm_out h]), rfl⟩

/-- a place, or none -/
def plI : Option Nat → Int
  | none => -1
  | some p => p
theorem next_ok (n a : Nat) (ni ai : Int) (hn : ni = n) (ha : ai = a) (h0 : a < n) (h1 : n ≤ 65536) (w : World) :
    Calls Try.prog 25 #[.int .i64 ni, .int .i64 ai] w fun e w' => e = .returned (.int .i64 (plI (nxt n a))) ∧ w = w' := by
  subst hn ha
  by_cases h : 2 * a + 2 < n
  · go_enter Try.func25, Try.ntmps25
    go_wp2
    go_step3
    go_wp2_with (go_at_call 30; refine (leftmost_ok n (2 * a + 2) _ _ rfl (by push_cast; rfl) h h1 _).mono ?_; rintro e w' ⟨rfl, rfl⟩)
    try rw [Exit.noGoto_ret]
    go_ret
    exact ⟨ret_int (by simp [nxt, h, plI]), rfl⟩
  · go_enter Try.func25, Try.ntmps25
    have hx : nxt n a = ups a := by simp [nxt, h]
    have HX := Lib.hid hx
    clear hx
    go_wp2
    go_step3
    go_wp2
    go_step3
    go_wp2
    go_loopg [1] a (fun g i wr => ∃ b : Nat, b = g ∧ b < n ∧ i = .int .i64 b ∧ wr = w ∧ ups b = ups a)
    case atStart => exact ⟨a, rfl, h0, rfl, rfl, rfl⟩
    case round =>
      obtain ⟨b, rfl, hbn, rfl, rfl, hup⟩ := hrel
      have HU := Lib.hid hup
      clear hup
      by_cases hb0 : b = 0
      · subst hb0
        go_wp2
        try rw [Exit.noGoto_ret]
        go_ret
        exact ⟨ret_int (by rw [HX.out, ← HU.out, ups_zero]; rfl), rfl⟩
      · have e0 : ((b : Int) == 0) = false := by simp; omega
        by_cases hb1 : b % 2 = 1
        · have e1 : ((b : Int) % 2 == 1) = true := by simp; omega
          go_wp2
          try rw [Exit.noGoto_ret]
          go_ret
          exact ⟨ret_int (by rw [HX.out, ← HU.out, ups_odd hb1]; simp only [plI]; omega), rfl⟩
        · have e1 : ((b : Int) % 2 == 1) = false := by simp; omega
          go_wp2
          go_roundg ((b - 1) / 2)
          case measure => omega
          case rel => exact ⟨(b - 1) / 2, rfl, by omega, by go_num, rfl, by rw [← ups_even (by omega) hb0]; exact HU.out⟩
end Go.Proofs.Ytcbeldemkfbliaa

/- Walks of the reference 16: First, Has. -/
import Derived.Test.YtelckhfmchnpnaaHeap
import Derived.Test.YtelckhfmchnpnaaHeapPlain
namespace Go.Proofs.Ytelckhfmchnpnaa
open Go.RowKit
set_option linter.unusedVariables false
set_option linter.unusedSimpArgs false

theorem First_ok (l : Int) (h1 : 1 ≤ l) (h2 : l ≤ 14) (w : World) :
    Calls Try.prog 62 #[.int .i64 l] w fun e w' => e = .returned (.int .i64 (2 ^ (l.toNat - 1))) ∧ w = w' := by
  have e : (l - 1).toNat = l.toNat - 1 := by omega
  have E := Lib.hid (fun w => Pow_ok (l - 1) (by omega) (by omega) w)
  rw [e] at E
  clear e
  go_enter Try.func62, Try.ntmps62
  go_wp2_with fail
  refine (E.out _).mono ?_
  rintro e w' ⟨rfl, rfl⟩
  go_wp2
  go_ret
  exact ⟨rfl, rfl⟩

theorem Has_yes (l n : Int) (h : ndE l n = 0) (w : World) :
    Calls Try.prog 38 #[.int .i64 l, .int .i64 n] w fun e w' => e = .returned (.bool true) ∧ w = w' := by
  obtain ⟨h1, h2, h3, h4⟩ := ndE_zero h
  obtain ⟨hp1, hp2⟩ := pow_bdI l h2
  have h5 : n ≤ 2 ^ l.toNat - 1 := by omega
  have h6 : decide (n < 2 ^ l.toNat) = true := by simpa using h4
  clear h h4
  go_enter Try.func38, Try.ntmps38
  go_wp2_with (first
    | (go_at_call 60; refine (Is16_yes _ h1 h2 _).mono ?_; rintro e w' ⟨rfl, rfl⟩)
    | (go_at_call 61; refine (Many16_ok _ (by omega) h2 _).mono ?_; rintro e w' ⟨rfl, rfl⟩))
  go_ret
  exact ⟨by simp <;> omega, rfl⟩
theorem Has_no (l n : Int) (h : ¬ ndE l n = 0) (w : World) :
    Calls Try.prog 38 #[.int .i64 l, .int .i64 n] w fun e w' => e = .returned (.bool false) ∧ w = w' := by
  by_cases hl : 1 ≤ l ∧ l ≤ 14
  · obtain ⟨h1, h2⟩ := hl
    obtain ⟨hp1, hp2⟩ := pow_bdI l h2
    by_cases h3 : 1 ≤ n
    · have h4 : 2 ^ l.toNat ≤ n := by
        by_cases h5 : n < 2 ^ l.toNat
        · exact absurd (ndE_ok h1 h2 h3 h5) h
        · omega
      have h5 : ¬ (n ≤ 2 ^ l.toNat - 1) := by omega
      clear h
      go_enter Try.func38, Try.ntmps38
      go_wp2_with (first
        | (go_at_call 60; refine (Is16_yes _ h1 h2 _).mono ?_; rintro e w' ⟨rfl, rfl⟩)
        | (go_at_call 61; refine (Many16_ok _ (by omega) h2 _).mono ?_; rintro e w' ⟨rfl, rfl⟩))
      go_ret
      exact ⟨by simp <;> omega, rfl⟩
    · clear h
      go_enter Try.func38, Try.ntmps38
      go_wp2_with (go_at_call 60; refine (Is16_yes _ h1 h2 _).mono ?_; rintro e w' ⟨rfl, rfl⟩)
      go_ret
      exact ⟨by simp <;> omega, rfl⟩
  · clear h
    go_enter Try.func38, Try.ntmps38
    go_wp2_with (go_at_call 60; refine (Is16_no _ (by omega) _).mono ?_; rintro e w' ⟨rfl, rfl⟩)
    go_ret
    exact ⟨rfl, rfl⟩

end Go.Proofs.Ytelckhfmchnpnaa

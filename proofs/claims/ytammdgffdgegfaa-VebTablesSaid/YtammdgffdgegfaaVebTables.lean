/-
  VebTables: for every number of levels, the places that veb.Table answers are the reference's, or both answer the error.
  No condition.
-/
import Derived.Test.YtammdgffdgegfaaVebTab
import Derived.Test.YtammdgffdgegfaaSame
namespace Go.Proofs.Ytammdgffdgegfaa
open Go.RowKit
set_option linter.unusedVariables false

theorem VebTables_walk (l : Int) (w : World) :
    Calls Try.prog 3 #[.int .i64 l] w fun e w' => e = .returned (.bool true) ∧ Below w.heap.size w w' := by
  by_cases h : 1 ≤ l ∧ l ≤ 14
  · obtain ⟨h1, h2⟩ := h
    obtain ⟨L, rfl⟩ := Int.eq_ofNat_of_zero_le (show 0 ≤ l by omega)
    have hL : (plc L).length ≤ 1000000000 := by
      rw [plc, fillTo_length]
      have : 2 ^ L ≤ 2 ^ 14 := Nat.pow_le_pow_right (by omega) (by omega)
      omega
    go_enter Try.func3, Try.ntmps3
    go_wp2_with fail
    refine (Table_ok L _ rfl (by omega) (by omega) _).mono ?_
    rintro e w1 ⟨v1, rfl, ho1, hb1⟩
    go_wp2_with fail
    refine (Table17_ok L _ rfl (by omega) (by omega) _).mono ?_
    rintro e w2 ⟨v2, rfl, ho2, hb2⟩
    have ho1' := owns_below ho1 hb2
    obtain ⟨a1, c1, rfl, hi1, _⟩ := ints_of_owns ho1'
    obtain ⟨a2, c2, rfl, hi2, _⟩ := ints_of_owns ho2
    have HI1 := Lib.hid hi1
    have HI2 := Lib.hid hi2
    clear hi1 hi2 ho1 ho2 ho1'
    go_wp2_with fail
    refine (SameInts_ok a1 a2 c1 c2 (plc L) (plc L) _ HI1.out HI2.out hL).mono ?_
    rintro e w3 ⟨rfl, n, rfl⟩
    go_wp2
    go_ret
    exact ⟨by simp, below_drewN (hb1.trans (hb2.mono hb1.size)) n⟩
  · go_enter Try.func3, Try.ntmps3
    go_wp2_with fail
    refine (Table_err _ (by omega) _).mono ?_
    rintro e w' ⟨rfl, rfl⟩
    go_wp2_with fail
    refine (Table17_err _ (by omega) _).mono ?_
    rintro e w' ⟨rfl, rfl⟩
    go_wp2_with fail
    refine (SameInts_ok none none 0 0 [] [] _ (fun i hi => by cases hi) (fun i hi => by cases hi) (by decide)).mono ?_
    rintro e w3 ⟨rfl, n, rfl⟩
    go_wp2
    go_ret
    exact ⟨by simp, below_drewN (Below.refl _ _) n⟩
end Go.Proofs.Ytammdgffdgegfaa

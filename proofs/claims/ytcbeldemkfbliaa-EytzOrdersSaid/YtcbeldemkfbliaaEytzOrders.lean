/-
  EytzOrders: for every number, eytz.Order answers the ranks that the reference answers, or both answer the same error (the statement itself passes over 3001 to 65536).
  No condition.
-/
import Derived.Test.YtcbeldemkfbliaaEytzOrd
import Derived.Test.YtcbeldemkfbliaaEytzRef
import Derived.Test.YtcbeldemkfbliaaSame
namespace Go.Proofs.Ytcbeldemkfbliaa
open Go.RowKit
set_option linter.unusedVariables false

theorem EytzOrders_walk (l : Int) (w : World) :
    Calls Try.prog 3 #[.int .i64 l] w fun e w' => e = .returned (.bool true) ∧ Below w.heap.size w w' := by
  by_cases h1 : l < 0
  · go_enter Try.func3, Try.ntmps3
    go_wp2_with fail
    refine (Order_neg _ h1 _).mono ?_
    rintro e w' ⟨rfl, rfl⟩
    go_wp2_with fail
    refine (Order22_neg _ h1 _).mono ?_
    rintro e w' ⟨rfl, rfl⟩
    go_wp2_with fail
    refine (SameInts_ok none none 0 0 [] [] _ (fun i hi => by cases hi) (fun i hi => by cases hi) (by decide)).mono ?_
    rintro e w3 ⟨rfl, n, rfl⟩
    go_wp2
    go_ret
    exact ⟨by simp, below_drewN (Below.refl _ _) n⟩
  · by_cases h2 : 65536 < l
    · go_enter Try.func3, Try.ntmps3
      go_wp2_with fail
      refine (Order_many _ h2 _).mono ?_
      rintro e w' ⟨rfl, rfl⟩
      go_wp2_with fail
      refine (Order22_many _ h2 _).mono ?_
      rintro e w' ⟨rfl, rfl⟩
      go_wp2_with fail
      refine (SameInts_ok none none 0 0 [] [] _ (fun i hi => by cases hi) (fun i hi => by cases hi) (by decide)).mono ?_
      rintro e w3 ⟨rfl, n, rfl⟩
      go_wp2
      go_ret
      exact ⟨by simp, below_drewN (Below.refl _ _) n⟩
    · by_cases h3 : 3000 < l
      · go_enter Try.func3, Try.ntmps3
        go_wp2
        go_ret
        exact ⟨rfl, Below.refl _ _⟩
      · obtain ⟨n, rfl⟩ := Int.eq_ofNat_of_zero_le (show 0 ≤ l by omega)
        have hL : (rnk n).length ≤ 1000000000 := by rw [rnk_length]; omega
        go_enter Try.func3, Try.ntmps3
        go_wp2_with fail
        refine (Order_ok n _ rfl (by omega) _).mono ?_
        rintro e w1 ⟨v1, rfl, ho1, hb1⟩
        go_wp2_with fail
        refine (Order22_ok n _ rfl (by omega) _).mono ?_
        rintro e w2 ⟨v2, rfl, ho2, hb2⟩
        have ho1' := owns_below ho1 hb2
        obtain ⟨a1, c1, rfl, hi1, _⟩ := ints_of_owns ho1'
        obtain ⟨a2, c2, rfl, hi2, _⟩ := ints_of_owns ho2
        have HI1 := Lib.hid hi1
        have HI2 := Lib.hid hi2
        clear hi1 hi2 ho1 ho2 ho1'
        go_wp2_with fail
        refine (SameInts_ok a1 a2 c1 c2 (rnk n) (rnk n) _ HI1.out HI2.out hL).mono ?_
        rintro e w3 ⟨rfl, m, rfl⟩
        go_wp2
        go_ret
        exact ⟨by simp, below_drewN (hb1.trans (hb2.mono hb1.size)) m⟩
end Go.Proofs.Ytcbeldemkfbliaa

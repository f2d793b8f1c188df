/- Walks of the closures of down.Home and down.Nth. -/
import Derived.Test.YtfmoghjddfjfmaaDownMay
import Derived.Test.YtfmoghjddfjfmaaIdxMayIx
import Derived.Test.YtfmoghjddfjfmaaIdxAt
import Derived.Test.YtfmoghjddfjfmaaHeapLeaf
import Derived.Test.YtfmoghjddfjfmaaVebPlace
namespace Go.Proofs.Ytfmoghjddfjfmaa
open Go.RowKit
set_option linter.unusedVariables false
set_option linter.unusedSimpArgs false

theorem Home1_ok (m c s key : Int) (b : Nat) (w : World) (hb : w.cell? ⟨b, 0, none⟩ = some (.int .i64 key)) :
    Calls Try.prog 24 #[.int .i64 m, .int .i64 c, .int .i64 s, .pointer (some ⟨b, 0, none⟩)] w fun e w' => e = .returned (.bool (decide (srv key m c))) ∧ w = w' := by
  by_cases h : 0 < c
  · have e : decide (srv key m c) = decide (key ≤ m) := by simp [srv, h]
    rw [e]
    go_enter Try.func24, Try.ntmps24
    go_wp2
    go_ret
    exact ⟨by simp, rfl⟩
  · have e : decide (srv key m c) = false := by simp [srv, h]
    rw [e]
    go_enter Try.func24, Try.ntmps24
    go_wp2
    go_ret
    exact ⟨by simp, rfl⟩
theorem Nth1_ok (m c s k : Int) (b : Nat) (w : World) (hb : w.cell? ⟨b, 0, none⟩ = some (.int .i64 k)) (h0 : 0 ≤ k - s) (h1 : k - s ≤ 9223372036854775807) :
    Calls Try.prog 27 #[.int .i64 m, .int .i64 c, .int .i64 s, .pointer (some ⟨b, 0, none⟩)] w fun e w' => e = .returned (.bool (decide (k - s < c))) ∧ w = w' := by
  go_enter Try.func27, Try.ntmps27
  go_wp2
  go_ret
  exact ⟨rfl, rfl⟩
end Go.Proofs.Ytfmoghjddfjfmaa

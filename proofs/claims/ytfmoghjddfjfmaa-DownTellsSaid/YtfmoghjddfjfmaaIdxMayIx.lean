/- The reference's May, of every index. -/
import Derived.Test.YtfmoghjddfjfmaaIdxMay
namespace Go.Proofs.Ytfmoghjddfjfmaa
open Go.RowKit
set_option linter.unusedVariables false
set_option linter.unusedSimpArgs false

theorem May_ix (l : Int) (ma ca : Option Addr) (mc cc : Nat) (ms cs : List Int) (w : World) (hm : IsRow .i64 w ma ms) (hc : IsRow .i64 w ca cs) :
    Calls Try.prog 25 #[ixV l ma ms.length mc ca cs.length cc] w (Ans w (.bool (ixMay l ms cs))) := by
  by_cases h : ixFit l ms cs
  · have e : ixMay l ms cs = allFrom (ndB l.toNat ms cs) 1 (2 ^ l.toNat - 1) := by
      unfold ixMay
      rw [decide_eq_true h, Bool.true_and]
    obtain ⟨h1, h2, h3, h4⟩ := h
    rw [e, h3, h4]
    have hp := Nat.two_pow_pos l.toNat
    exact May_fit l.toNat (2 ^ l.toNat - 1) l (by omega) (by omega) (by omega) (by omega) ma ca mc cc ms cs h3 h4 w hm hc
  · have e : ixMay l ms cs = false := by
      unfold ixMay
      rw [decide_eq_false h, Bool.false_and]
    rw [e]
    exact May_bad l ma ca mc cc ms cs h w
end Go.Proofs.Ytfmoghjddfjfmaa

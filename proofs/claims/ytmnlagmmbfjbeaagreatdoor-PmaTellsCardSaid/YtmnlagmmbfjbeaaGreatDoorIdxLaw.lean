/- The index of an array in plain words: it may be; each node tells the count and the greatest key of its run of pairs. No function of the program is walked here. -/
import Derived.Test.YtmnlagmmbfjbeaaGreatDoorIdxTr
import Derived.Test.YtmnlagmmbfjbeaaGreatDoorDwnP
namespace Go.Proofs.YtmnlagmmbfjbeaaGreatDoor
open Go.RowKit
set_option linter.unusedVariables false
set_option linter.unusedSimpArgs false

theorem plsW_append (ws : List Int) {a b d : Nat} (h1 : a ≤ b) (h2 : b ≤ d) : plsW ws a b ++ plsW ws b d = plsW ws a d := by
  unfold plsW
  rw [← List.filter_append]
  congr 1
  have := List.range'_append_1 (s := a) (m := b - a) (n := d - b)
  rw [show a + (b - a) = b by omega, show b - a + (d - b) = d - a by omega] at this
  exact this
theorem prs_append (c : SlC) {a b d : Nat} (h1 : a ≤ b) (h2 : b ≤ d) : prs c a b ++ prs c b d = prs c a d := by
  unfold prs
  rw [← List.map_append, plsW_append c.ws h1 h2]
/-- keys rise -/
def Ris (l : List (Int × Int)) : Prop := l.Pairwise fun p q => p.1 < q.1
theorem ris_of {l : List (Int × Int)} (h : risB l = true) : Ris l := by
  unfold risB at h
  rw [List.all_eq_true] at h
  have h1 : ∀ i, i + 1 < l.length → (l.getD i (0, 0)).1 < (l.getD (i + 1) (0, 0)).1 := fun i hi => by
    have := h (i + 1) (List.mem_range.2 hi)
    simpa [risAt] using this
  have h2 : ∀ j i, i < j → j < l.length → (l.getD i (0, 0)).1 < (l.getD j (0, 0)).1 := by
    intro j
    induction j with
    | zero => intro i hi; omega
    | succ j ih =>
      intro i hi hj
      have := h1 j hj
      by_cases e : i = j
      · subst e; exact this
      · have := ih i (by omega) (by omega); omega
  refine List.pairwise_iff_getElem.2 fun i j hi hj hij => ?_
  have := h2 j i hij hj
  simpa [List.getD_eq_getElem?_getD, hi, hj] using this
theorem Ris.apart {a b : List (Int × Int)} (h : Ris (a ++ b)) : Ris a ∧ Ris b ∧ ∀ p ∈ a, ∀ q ∈ b, p.1 < q.1 := by
  have := List.pairwise_append.1 h
  exact this
theorem Ris.prs {c : SlC} {n : Nat} (h : Ris (prs c 0 n)) {a b : Nat} (h1 : a ≤ b) (h2 : b ≤ n) : Ris (Go.Proofs.YtmnlagmmbfjbeaaGreatDoor.prs c a b) := by
  rw [← prs_append c (Nat.zero_le b) h2] at h
  have h3 := h.apart.1
  rw [← prs_append c (Nat.zero_le a) h1] at h3
  exact h3.apart.2.1
theorem seek_ris {c : SlC} (h : seekE c = 0) : Ris (prs c 0 c.ks.length) := by
  have hm := seekE_may h
  rw [seekE, if_pos hm] at h
  split at h
  · exact ris_of (by assumption)
  · cases h
end Go.Proofs.YtmnlagmmbfjbeaaGreatDoor

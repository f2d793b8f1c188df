/- Merged: LoadW, GapLd. -/
import Derived.Test.YtmnlagmmbfjbeaaGreatDoorSlPut
import Derived.Test.YtmnlagmmbfjbeaaGreatDoorConfPl
import Derived.Deep.CutRange
import Derived.Test.YtmnlagmmbfjbeaaGreatDoorSprA
import Derived.Test.YtmnlagmmbfjbeaaGreatDoorRef09A
namespace Go.Proofs.YtmnlagmmbfjbeaaGreatDoor
set_option linter.unusedVariables false
set_option linter.unusedSimpArgs false
section
open Go.RowKit Go.Shelf
attribute [local go_sem] Oper.semAt_some

end

section
open Go.RowKit

/-- a config's array, by numbers -/
theorem gap_zero {c : Cfg} {s : SlC} (h : gapE c s = 0) : cfMay c = true ∧ ∃ a H, GapN c s a H ∧ s.seg = c.seg ∧ sumC s.cs 0 s.cs.length ≤ c.most ∧ denB c s H = true := by
  unfold gapE at h
  split at h
  · rename_i hc
    split at h
    · rename_i hg
      have hg' := hg
      simp only [gapMay, gapHead, Bool.and_eq_true, decide_eq_true_eq] at hg
      obtain ⟨⟨⟨⟨h1, h2⟩, h3⟩, h4⟩, h5⟩ := hg
      obtain ⟨a, H, k⟩ := gapN_of hc h3 h1 h2
      exact ⟨hc, a, H, k, h2, h4, by rw [← k.cap.hgt]; exact h5⟩
    · cases h
  · cases h
def nilC : SlC := ⟨0, [], [], [], [], 0⟩
theorem gapN_gd {c : Cfg} {s : SlC} {a H : Nat} (k : GapN c s a H) (hu : U64s s.ws) : SlGd s (2 ^ a) ((s.ks.length + 63) / 64) s.ks.length (2 ^ H) ∧ (s.ks.length + 63) / 64 ≤ 2000 := by
  obtain ⟨S, M, g, -, -, -⟩ := slMay_gd hu k.may
  have e1 : S = 2 ^ a := by have := g.seg; have := k.seg; omega
  have e2 : M = 2 ^ H := by have := g.elc; have := k.nc; omega
  have e3 := g.elk
  subst e1 e2
  have hb := k.cap.big
  rw [← e3] at g
  have := k.nk
  exact ⟨g, by omega⟩
end
end Go.Proofs.YtmnlagmmbfjbeaaGreatDoor

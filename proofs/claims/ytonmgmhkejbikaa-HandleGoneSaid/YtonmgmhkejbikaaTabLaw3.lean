/- What was dropped is gone: plain laws. -/
import Derived.Test.YtonmgmhkejbikaaTabLaw2
namespace Go.Proofs.Ytonmgmhkejbikaa
open Go.RowKit Go.Shelf
set_option linter.unusedVariables false
set_option linter.unusedSimpArgs false

/-- a handle whose number has gone on -/
def Gone (gs : List Int) (n g : Int) : Prop := 0 ≤ n ∧ n < gs.length ∧ g < gs.getD n.toNat 0

theorem Gone.not {gs ps : List Int} {n g : Int} (h : Gone gs n g) : isH gs ps n g = false := by
  cases hc : isH gs ps n g with
  | false => rfl
  | true =>
    have h1 := (isH_iff.1 hc).2.2.2
    have h2 := h.2.2
    omega
/-- a number that is taken back -/
theorem drop_may {gs ps : List Int} {n g : Int} (hm : may gs ps = true) (hi : isH gs ps n g = true) : may (gs.set n.toNat (gs.getD n.toNat 0 + 1)) (ps.set n.toNat (-1)) = true := by
  obtain ⟨h1, h2, h3⟩ := may_iff.1 hm
  obtain ⟨i1, i2, i3, i4⟩ := isH_iff.1 hi
  refine may_iff.2 ⟨by simpa using h1, by simpa using h2, fun k hk => ?_⟩
  have hk' : k < gs.length := by simpa using hk
  by_cases e : k = n.toNat
  · subst e
    have := okAt_iff.1 (h3 n.toNat hk')
    rw [getD_set_eq (by omega), getD_set_eq (by omega)]
    exact okAt_iff.2 ⟨by omega, by have := this.2.2.2 i3; omega, by omega, fun h => by omega⟩
  · rw [getD_set_ne e, getD_set_ne e]
    exact h3 k hk'
theorem drop_gone {gs : List Int} {n g : Int} (h0 : 0 ≤ n) (h1 : n < gs.length) (hg : gs.getD n.toNat 0 = g) : Gone (gs.set n.toNat (gs.getD n.toNat 0 + 1)) n g :=
  ⟨h0, by simpa using h1, by rw [getD_set_eq (by omega)]; omega⟩
theorem Gone.drop {gs : List Int} {m h n : Int} (hh : Gone gs m h) : Gone (gs.set n.toNat (gs.getD n.toNat 0 + 1)) m h := by
  obtain ⟨a, b, c⟩ := hh
  refine ⟨a, by simpa using b, ?_⟩
  by_cases e : m.toNat = n.toNat
  · rw [← e, getD_set_eq (by omega)]; omega
  · rw [getD_set_ne e]; exact c
theorem drop_lost {gs ps : List Int} {n g : Int} (hm : may gs ps = true) (hi : isH gs ps n g = true) : isH (gs.set n.toNat (gs.getD n.toNat 0 + 1)) (ps.set n.toNat (-1)) n g = false := by
  obtain ⟨i1, i2, i3, i4⟩ := isH_iff.1 hi
  exact (drop_gone i1 i2 i4).not
theorem Gone.made {gs ps : List Int} {a : Int} {gs2 ps2 : List Int} {n g m h : Int} (hM : Made gs ps a gs2 ps2 n g) (hh : Gone gs m h) : Gone gs2 m h ∧ ¬ (n = m ∧ g = h) := by
  obtain ⟨a1, b1, c1⟩ := hh
  have hl := hM.less
  refine ⟨⟨a1, by omega, by rw [hM.gens m.toNat (by omega)]; exact c1⟩, ?_⟩
  rintro ⟨rfl, rfl⟩
  have := hM.own b1
  omega
/-- Make never fails where there is room -/
theorem make_room {gs ps : List Int} {a : Int} (hm : may gs ps = true) (ha : 0 ≤ a) (hl : gs.length ≤ 60000) : makeOk gs ps a = true ∧ makeE gs ps a = 0 := by
  have hne : gs.length ≠ 65536 := by omega
  have hk : makeOk gs ps a = true := by simp [makeOk, hm, ha, hne]
  have : ¬ a < 0 := by omega
  exact ⟨hk, by simp [makeE, hm, this, hk]⟩
end Go.Proofs.Ytonmgmhkejbikaa

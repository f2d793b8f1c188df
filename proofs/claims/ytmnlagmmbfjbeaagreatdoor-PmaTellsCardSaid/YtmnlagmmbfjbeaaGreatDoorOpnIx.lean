/- Merged: Open, OpenIx, OpenI2. -/
import Derived.Test.YtmnlagmmbfjbeaaGreatDoorMLS
import Derived.ProofKit
import Derived.OpenShut
import Derived.ShutString
import Derived.ChangeOld
import Derived.Below
import Derived.Lib.SmallJoins
import Derived.Test.YtmnlagmmbfjbeaaGreatDoorIdxTF
import Derived.Test.YtmnlagmmbfjbeaaGreatDoorRowAll
namespace Go.Proofs.YtmnlagmmbfjbeaaGreatDoor
set_option linter.unusedVariables false
set_option linter.unusedSimpArgs false
section
open Go.ChangeShapes Go.WideShapes Go.ChangeAt Go.RowKit Go.Joins

end

section
open Go.ChangeShapes Go.WideShapes Go.ChangeAt Go.RowKit Go.Joins

theorem open_rowK {H : Type} {enc : TypeId × Value → H} {w : World} {fuel : Nat} {base : Nat} {spare : Nat → Bool} {held : Bool} {t e : TypeId} {k : IntKind} {cs : List Value} {x : DataW H × List MemPlace}
    (ht : Tryz.prog.underlying t = some (.slice e)) (he : Tryz.prog.underlying e = some (.int k)) (hc : Tryz.prog.cellsOf e = 1) (h : DataW.trod enc Tryz.prog w base spare held fuel t cs = some x) :
    ∃ (ao : Option Addr) (xs : List Int) (cap : Nat), cs = [.slice ao xs.length cap] ∧ IsRow k w ao xs ∧ (ao = none → cap = 0) ∧ xs.length ≤ maxLen ∧ (∀ n ∈ xs, (Lit.int k n).wf = true) := by
  rcases open_ints ht he hc h with ⟨rfl, rfl⟩ | ⟨a, len, cap, zs, rfl, hb, hl, hm, hz, rfl, hc, hw⟩
  · exact ⟨none, [], 0, rfl, fun i hi => by simp at hi, fun _ => rfl, by simp, by simp⟩
  · have hlen : len ≤ zs.length := by rw [hz]; split <;> omega
    refine ⟨some a, zs.take len, cap, by simp [hlen], ?_, fun h => (by cases h), by simp; omega, fun n hn => hw n (List.mem_of_mem_take hn)⟩
    intro i hi
    have hi' : i < len := by simp at hi; omega
    obtain ⟨b, off, sp⟩ := a
    have h0 := hc 0 (by omega)
    obtain rfl : sp = none := by simpa [Addr.add] using World.cell?_spot h0
    refine ⟨b, off, rfl, ?_, fun j hj => ?_⟩
    · have := World.block_lt_of_cell? w _ h0
      simpa [Addr.add] using this
    · have hj' : j < len := by simp at hj; omega
      have := hc j (by omega)
      rw [Addr.add_lit] at this
      rw [this]
      simp [List.getD_eq_getElem?_getD, List.getElem?_take, hj']
end

section
open Go.ChangeShapes Go.WideShapes Go.ChangeAt Go.RowKit Go.Joins

end
end Go.Proofs.YtmnlagmmbfjbeaaGreatDoor

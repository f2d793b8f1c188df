/- The walk of the reference's Twin of an index. -/
import Derived.Test.YtfmoghjddfjfmaaDoorInvFc
import Derived.Test.YtfmoghjddfjfmaaDoorStep
namespace Go.Proofs.YtfmoghjddfjfmaaDoor
open Go.RowKit
set_option linter.unusedVariables false
set_option linter.unusedSimpArgs false

abbrev ixV (L : Int) (ma : Option Addr) (m mc : Nat) (ca : Option Addr) (c cc : Nat) : Value := .agg #[.int .i64 L, .slice ma m mc, .slice ca c cc]
theorem info_int64 : (Tryd.prog.info? 2).map (fun i => (i.zero, i.size, i.bytes)) = some (some (.int .i64 0), 1, 8) := by kernel_rfl
theorem ints_news {w : World} {ga : Option Addr} {xs : List Int} (h : IsInts w ga xs) : ∀ ad, ga = some ad → ∀ j u, (xs.map (Value.int .i64))[j]? = some u → w.cell? (ad.add j) = some u := by
  rintro ad rfl j u hj
  rw [List.getElem?_map] at hj
  cases hx : xs[j]? with
  | none => rw [hx] at hj; cases hj
  | some v =>
    rw [hx] at hj
    have hjl := (List.getElem?_eq_some_iff.1 hx).1
    obtain ⟨b, o, h1, _, hc⟩ := h j hjl
    cases h1
    rw [Addr.add_lit, hc j hjl, List.getD_eq_getElem?_getD, hx]
    exact hj

/-- a new index -/
def FreshIx (w : World) (L : Int) (ms cs : List Int) (e : Ending) (w' : World) : Prop :=
  ∃ v u, e = .returned (.agg #[.int .i64 L, v, u]) ∧ w'.ownsRow w.heap.size 2 1 v ms.length (ms.map (Value.int .i64)) ∧ w'.ownsRow w.heap.size 3 1 u cs.length (cs.map (Value.int .i64)) ∧ Below w.heap.size w w'

end Go.Proofs.YtfmoghjddfjfmaaDoor

/- The walk of the reference's Twin of an index. -/
import Derived.Test.YtbmibaafkgleeaaInvFc
import Derived.Test.YtbmibaafkgleeaaStep
namespace Go.Proofs.Ytbmibaafkgleeaa
open Go.RowKit
set_option linter.unusedVariables false
set_option linter.unusedSimpArgs false

abbrev ixV (L : Int) (ma : Option Addr) (m mc : Nat) (ca : Option Addr) (c cc : Nat) : Value := .agg #[.int .i64 L, .slice ma m mc, .slice ca c cc]
theorem info_int64 : (Try.prog.info? 2).map (fun i => (i.zero, i.size, i.bytes)) = some (some (.int .i64 0), 1, 8) := by kernel_rfl
/-- a new index -/
def FreshIx (w : World) (L : Int) (ms cs : List Int) (e : Ending) (w' : World) : Prop :=
  ∃ v u, e = .returned (.agg #[.int .i64 L, v, u]) ∧ w'.ownsRow w.heap.size 2 1 v ms.length (ms.map (Value.int .i64)) ∧ w'.ownsRow w.heap.size 3 1 u cs.length (cs.map (Value.int .i64)) ∧ Below w.heap.size w w'

end Go.Proofs.Ytbmibaafkgleeaa

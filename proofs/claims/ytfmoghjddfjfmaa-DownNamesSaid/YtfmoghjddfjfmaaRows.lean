/-
  No cell of these rows narrows 'for every input' (looked for: loops, veiled, ifaces, maps, wideKeys, modest, calm, conditions, laid).
  DERIVED. THE GIVEN ROWS OF THIS SEAT. 4 by the template 'for every input the law returns true; each argument reads behind the call as it read before'; 0 by the template 'total and deterministic' (their statements: YtfmoghjddfjfmaaTotals.lean).
  GIVEN WITH THE SEED: the statements are not yours to turn. If you find one false, say at which input.
  Laid BY PROGRAM, IN A SANDBOX (cutbox-rows.mjs): the forced cells as the released guide's own fill.sh prints them over the translation 6ed0e950b061e25b… (all of the seat's roots in one cut). By AI agents, Wed Nov 11 2026. No macro, syntax, notation, axiom, sorry.
-/
import Derived.Test.YtfmoghjddfjfmaaChecked
import GoSem.Claim
import GoSem.ClaimJoined
import GoSem.ClaimMapViews
import Derived.JoinedTies
import Derived.KernelRfl
namespace Go.Proofs.Ytfmoghjddfjfmaa
/- THE CELL 'sum', in the pinned program and in every row, IS THE sha256 OF THE DUMP (.gsa) THAT YtfmoghjddfjfmaaProg.lean LOADS. Nothing in Lean hashes anything: it is a label: what it is worth is what the hold of that sum in a sandbox is worth. -/
noncomputable def Try.pinned : Pinned := { name := "ytfmoghjddfjfmaa", sum := "6ed0e950b061e25bce1047c4b75f85a554a42251ef3bda78914ab323f90db7c5", checked := Try.checked }
namespace Rows
def none {H : Type} : Left H := { results := [], args := [] }

/-- 'shelfmarklaw19.DownTells': WHATEVER THE INPUT: true; the input reads as it did. -/
def downTellsSpec : ChangeSpec := { name := "downTells", fn := fun _ => fun
  | [d1, d2, d3] => { results := [.lit (.bool true)], args := [d1, d2, d3] }
  | _ => none }
def downTellsRow : OpenClaim := { program := "ytfmoghjddfjfmaa", sum := "6ed0e950b061e25bce1047c4b75f85a554a42251ef3bda78914ab323f90db7c5", func := "shelfmark/shelfmarklaw19.DownTells", spec := "downTells", unfollowed := true, recurses := true, apart := false }
def DownTellsSaid : Prop := downTellsRow.holds Try.pinned (OpenSpec.ofChange downTellsSpec)

/-- ITS FALSE NEIGHBOUR: 'it returns false'. Refute it at one input. -/
def downTellsWrong : ChangeSpec := { name := "downTells", fn := fun _ => fun
  | [d1, d2, d3] => { results := [.lit (.bool false)], args := [d1, d2, d3] }
  | _ => none }
def DownTellsWrongFalsely : Prop := downTellsRow.holds Try.pinned (OpenSpec.ofChange downTellsWrong)

/-- 'shelfmarklaw19.DownNames': WHATEVER THE INPUT: true; the input reads as it did. -/
def downNamesSpec : ChangeSpec := { name := "downNames", fn := fun _ => fun
  | [] => { results := [.lit (.bool true)], args := [] }
  | _ => none }
def downNamesRow : OpenClaim := { program := "ytfmoghjddfjfmaa", sum := "6ed0e950b061e25bce1047c4b75f85a554a42251ef3bda78914ab323f90db7c5", func := "shelfmark/shelfmarklaw19.DownNames", spec := "downNames", unfollowed := true, recurses := true, apart := false }
def DownNamesSaid : Prop := downNamesRow.holds Try.pinned (OpenSpec.ofChange downNamesSpec)

/-- ITS FALSE NEIGHBOUR: 'it returns false'. Refute it at one input. -/
def downNamesWrong : ChangeSpec := { name := "downNames", fn := fun _ => fun
  | [] => { results := [.lit (.bool false)], args := [] }
  | _ => none }
def DownNamesWrongFalsely : Prop := downNamesRow.holds Try.pinned (OpenSpec.ofChange downNamesWrong)

/-- 'shelfmarklaw19.DownOrder': WHATEVER THE INPUT: true; the input reads as it did. -/
def downOrderSpec : ChangeSpec := { name := "downOrder", fn := fun _ => fun
  | [d1, d2, d3] => { results := [.lit (.bool true)], args := [d1, d2, d3] }
  | _ => none }
def downOrderRow : OpenClaim := { program := "ytfmoghjddfjfmaa", sum := "6ed0e950b061e25bce1047c4b75f85a554a42251ef3bda78914ab323f90db7c5", func := "shelfmark/shelfmarklaw19.DownOrder", spec := "downOrder", unfollowed := true, recurses := true, apart := false }
def DownOrderSaid : Prop := downOrderRow.holds Try.pinned (OpenSpec.ofChange downOrderSpec)

/-- ITS FALSE NEIGHBOUR: 'it returns false'. Refute it at one input. -/
def downOrderWrong : ChangeSpec := { name := "downOrder", fn := fun _ => fun
  | [d1, d2, d3] => { results := [.lit (.bool false)], args := [d1, d2, d3] }
  | _ => none }
def DownOrderWrongFalsely : Prop := downOrderRow.holds Try.pinned (OpenSpec.ofChange downOrderWrong)

/-- 'shelfmarklaw19.DownBack': WHATEVER THE INPUT: true; the input reads as it did. -/
def downBackSpec : ChangeSpec := { name := "downBack", fn := fun _ => fun
  | [d1, d2] => { results := [.lit (.bool true)], args := [d1, d2] }
  | _ => none }
def downBackRow : OpenClaim := { program := "ytfmoghjddfjfmaa", sum := "6ed0e950b061e25bce1047c4b75f85a554a42251ef3bda78914ab323f90db7c5", func := "shelfmark/shelfmarklaw19.DownBack", spec := "downBack", unfollowed := true, recurses := true, apart := false }
def DownBackSaid : Prop := downBackRow.holds Try.pinned (OpenSpec.ofChange downBackSpec)

/-- ITS FALSE NEIGHBOUR: 'it returns false'. Refute it at one input. -/
def downBackWrong : ChangeSpec := { name := "downBack", fn := fun _ => fun
  | [d1, d2] => { results := [.lit (.bool false)], args := [d1, d2] }
  | _ => none }
def DownBackWrongFalsely : Prop := downBackRow.holds Try.pinned (OpenSpec.ofChange downBackWrong)

/- THE SECOND FORM. 'bulk': how many values and letters a reading holds, each counted each time it is reached (what is shared counts as often as it is met; a slice's spare places count too). A statement '..UptoSaid' is the law's where the arguments, and the package variables that the reading takes, are together of bulk at most 1048576: NARROWER than '..Said'. Prove '..Said' where nothing that the law and all that it calls make is longer than what came in: it says more and counts as full. Else prove '..UptoSaid'. A law counts once. -/
mutual
def uptoBulk {H : Type} : DataW H → Nat
  | .lit (.string bytes) => bytes.length + 1
  | .lit _ => 1
  | .nil => 1
  | .ptr d => uptoBulk d + 1
  | .slice elems spare => uptoBulkAll elems + uptoBulkAll spare + 1
  | .agg parts => uptoBulkAll parts + 1
  | .iface _ d => uptoBulk d + 1
  | .map entries => uptoBulkEntries entries + 1
  | .held _ => 1
def uptoBulkAll {H : Type} : List (DataW H) → Nat
  | [] => 0
  | d :: r => uptoBulk d + uptoBulkAll r
def uptoBulkEntries {H : Type} : List (Lit × DataW H) → Nat
  | [] => 0
  | x :: r => uptoBulkEntry x + uptoBulkEntries r
def uptoBulkEntry {H : Type} : Lit × DataW H → Nat
  | (.string bytes, d) => bytes.length + uptoBulk d + 1
  | (_, d) => uptoBulk d + 1
 end
def uptoSmall : (H : Type) → List (DataW H) → Bool := fun _ ds => decide (uptoBulkAll ds ≤ 1048576)
def OpenSpec.upto (s : _root_.Go.ChangeSpec) : _root_.Go.OpenSpec := { _root_.Go.OpenSpec.ofChange s with cond := some uptoSmall }

/-- 'shelfmarklaw19.DownTells', WHERE WHAT IT READS IS OF BULK AT MOST 1048576: true; the input reads as it did. -/
def downTellsUptoRow : OpenClaim := { program := "ytfmoghjddfjfmaa", sum := "6ed0e950b061e25bce1047c4b75f85a554a42251ef3bda78914ab323f90db7c5", func := "shelfmark/shelfmarklaw19.DownTells", spec := "downTells", unfollowed := true, recurses := true, apart := false, narrowed := true }
def DownTellsUptoSaid : Prop := downTellsUptoRow.holds Try.pinned (OpenSpec.upto downTellsSpec)

/-- 'shelfmarklaw19.DownNames', WHERE WHAT IT READS IS OF BULK AT MOST 1048576: true; the input reads as it did. -/
def downNamesUptoRow : OpenClaim := { program := "ytfmoghjddfjfmaa", sum := "6ed0e950b061e25bce1047c4b75f85a554a42251ef3bda78914ab323f90db7c5", func := "shelfmark/shelfmarklaw19.DownNames", spec := "downNames", unfollowed := true, recurses := true, apart := false, narrowed := true }
def DownNamesUptoSaid : Prop := downNamesUptoRow.holds Try.pinned (OpenSpec.upto downNamesSpec)

/-- 'shelfmarklaw19.DownOrder', WHERE WHAT IT READS IS OF BULK AT MOST 1048576: true; the input reads as it did. -/
def downOrderUptoRow : OpenClaim := { program := "ytfmoghjddfjfmaa", sum := "6ed0e950b061e25bce1047c4b75f85a554a42251ef3bda78914ab323f90db7c5", func := "shelfmark/shelfmarklaw19.DownOrder", spec := "downOrder", unfollowed := true, recurses := true, apart := false, narrowed := true }
def DownOrderUptoSaid : Prop := downOrderUptoRow.holds Try.pinned (OpenSpec.upto downOrderSpec)

/-- 'shelfmarklaw19.DownBack', WHERE WHAT IT READS IS OF BULK AT MOST 1048576: true; the input reads as it did. -/
def downBackUptoRow : OpenClaim := { program := "ytfmoghjddfjfmaa", sum := "6ed0e950b061e25bce1047c4b75f85a554a42251ef3bda78914ab323f90db7c5", func := "shelfmark/shelfmarklaw19.DownBack", spec := "downBack", unfollowed := true, recurses := true, apart := false, narrowed := true }
def DownBackUptoSaid : Prop := downBackUptoRow.holds Try.pinned (OpenSpec.upto downBackSpec)

end Rows
end Go.Proofs.Ytfmoghjddfjfmaa

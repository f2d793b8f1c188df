/-
  No cell of these rows narrows 'for every input' (looked for: loops, veiled, ifaces, maps, wideKeys, modest, calm, conditions, laid).
  DERIVED. THE GIVEN ROWS OF THIS SEAT. 5 by the template 'for every input the law returns true; each argument reads behind the call as it read before'; 0 by the template 'total and deterministic' (their statements: YtcbeldemkfbliaaTotals.lean).
  GIVEN WITH THE SEED: the statements are not yours to turn. If you find one false, say at which input.
  Laid BY PROGRAM, IN A SANDBOX (cutbox-rows.mjs): the forced cells as the released guide's own fill.sh prints them over the translation 5bcc58f5a02e6e2a… (all of the seat's roots in one cut). By AI agents, Wed Nov 11 2026. No macro, syntax, notation, axiom, sorry.
-/
import Derived.Test.YtcbeldemkfbliaaChecked
import GoSem.Claim
import GoSem.ClaimJoined
import GoSem.ClaimMapViews
import Derived.JoinedTies
import Derived.KernelRfl
namespace Go.Proofs.Ytcbeldemkfbliaa
/- THE CELL 'sum', in the pinned program and in every row, IS THE sha256 OF THE DUMP (.gsa) THAT YtcbeldemkfbliaaProg.lean LOADS. Nothing in Lean hashes anything: it is a label: what it is worth is what the hold of that sum in a sandbox is worth. -/
noncomputable def Try.pinned : Pinned := { name := "ytcbeldemkfbliaa", sum := "5bcc58f5a02e6e2a3fa02e27ad6993b6d04d3c5daebda3c06327e8c77d77e68a", checked := Try.checked }
namespace Rows
def none {H : Type} : Left H := { results := [], args := [] }

/-- 'shelfmarklaw22.EytzOrders': WHATEVER THE INPUT: true; the input reads as it did. -/
def eytzOrdersSpec : ChangeSpec := { name := "eytzOrders", fn := fun _ => fun
  | [d] => { results := [.lit (.bool true)], args := [d] }
  | _ => none }
def eytzOrdersRow : OpenClaim := { program := "ytcbeldemkfbliaa", sum := "5bcc58f5a02e6e2a3fa02e27ad6993b6d04d3c5daebda3c06327e8c77d77e68a", func := "shelfmark/shelfmarklaw22.EytzOrders", spec := "eytzOrders", unfollowed := true, recurses := true, apart := false }
def EytzOrdersSaid : Prop := eytzOrdersRow.holds Try.pinned (OpenSpec.ofChange eytzOrdersSpec)

/-- ITS FALSE NEIGHBOUR: 'it returns false'. Refute it at one input. -/
def eytzOrdersWrong : ChangeSpec := { name := "eytzOrders", fn := fun _ => fun
  | [d] => { results := [.lit (.bool false)], args := [d] }
  | _ => none }
def EytzOrdersWrongFalsely : Prop := eytzOrdersRow.holds Try.pinned (OpenSpec.ofChange eytzOrdersWrong)

/-- 'shelfmarklaw22.EytzTree': WHATEVER THE INPUT: true; the input reads as it did. -/
def eytzTreeSpec : ChangeSpec := { name := "eytzTree", fn := fun _ => fun
  | [d1, d2] => { results := [.lit (.bool true)], args := [d1, d2] }
  | _ => none }
def eytzTreeRow : OpenClaim := { program := "ytcbeldemkfbliaa", sum := "5bcc58f5a02e6e2a3fa02e27ad6993b6d04d3c5daebda3c06327e8c77d77e68a", func := "shelfmark/shelfmarklaw22.EytzTree", spec := "eytzTree", unfollowed := true, recurses := true, apart := false }
def EytzTreeSaid : Prop := eytzTreeRow.holds Try.pinned (OpenSpec.ofChange eytzTreeSpec)

/-- ITS FALSE NEIGHBOUR: 'it returns false'. Refute it at one input. -/
def eytzTreeWrong : ChangeSpec := { name := "eytzTree", fn := fun _ => fun
  | [d1, d2] => { results := [.lit (.bool false)], args := [d1, d2] }
  | _ => none }
def EytzTreeWrongFalsely : Prop := eytzTreeRow.holds Try.pinned (OpenSpec.ofChange eytzTreeWrong)

/-- 'shelfmarklaw22.EytzNames': WHATEVER THE INPUT: true; the input reads as it did. -/
def eytzNamesSpec : ChangeSpec := { name := "eytzNames", fn := fun _ => fun
  | [] => { results := [.lit (.bool true)], args := [] }
  | _ => none }
def eytzNamesRow : OpenClaim := { program := "ytcbeldemkfbliaa", sum := "5bcc58f5a02e6e2a3fa02e27ad6993b6d04d3c5daebda3c06327e8c77d77e68a", func := "shelfmark/shelfmarklaw22.EytzNames", spec := "eytzNames", unfollowed := true, recurses := true, apart := false }
def EytzNamesSaid : Prop := eytzNamesRow.holds Try.pinned (OpenSpec.ofChange eytzNamesSpec)

/-- ITS FALSE NEIGHBOUR: 'it returns false'. Refute it at one input. -/
def eytzNamesWrong : ChangeSpec := { name := "eytzNames", fn := fun _ => fun
  | [] => { results := [.lit (.bool false)], args := [] }
  | _ => none }
def EytzNamesWrongFalsely : Prop := eytzNamesRow.holds Try.pinned (OpenSpec.ofChange eytzNamesWrong)

/-- 'shelfmarklaw22.EytzTells': WHATEVER THE INPUT: true; the input reads as it did. -/
def eytzTellsSpec : ChangeSpec := { name := "eytzTells", fn := fun _ => fun
  | [d1, d2] => { results := [.lit (.bool true)], args := [d1, d2] }
  | _ => none }
def eytzTellsRow : OpenClaim := { program := "ytcbeldemkfbliaa", sum := "5bcc58f5a02e6e2a3fa02e27ad6993b6d04d3c5daebda3c06327e8c77d77e68a", func := "shelfmark/shelfmarklaw22.EytzTells", spec := "eytzTells", unfollowed := true, recurses := true, apart := false }
def EytzTellsSaid : Prop := eytzTellsRow.holds Try.pinned (OpenSpec.ofChange eytzTellsSpec)

/-- ITS FALSE NEIGHBOUR: 'it returns false'. Refute it at one input. -/
def eytzTellsWrong : ChangeSpec := { name := "eytzTells", fn := fun _ => fun
  | [d1, d2] => { results := [.lit (.bool false)], args := [d1, d2] }
  | _ => none }
def EytzTellsWrongFalsely : Prop := eytzTellsRow.holds Try.pinned (OpenSpec.ofChange eytzTellsWrong)

/-- 'shelfmarklaw22.EytzBack': WHATEVER THE INPUT: true; the input reads as it did. -/
def eytzBackSpec : ChangeSpec := { name := "eytzBack", fn := fun _ => fun
  | [d1, d2] => { results := [.lit (.bool true)], args := [d1, d2] }
  | _ => none }
def eytzBackRow : OpenClaim := { program := "ytcbeldemkfbliaa", sum := "5bcc58f5a02e6e2a3fa02e27ad6993b6d04d3c5daebda3c06327e8c77d77e68a", func := "shelfmark/shelfmarklaw22.EytzBack", spec := "eytzBack", unfollowed := true, recurses := true, apart := false }
def EytzBackSaid : Prop := eytzBackRow.holds Try.pinned (OpenSpec.ofChange eytzBackSpec)

/-- ITS FALSE NEIGHBOUR: 'it returns false'. Refute it at one input. -/
def eytzBackWrong : ChangeSpec := { name := "eytzBack", fn := fun _ => fun
  | [d1, d2] => { results := [.lit (.bool false)], args := [d1, d2] }
  | _ => none }
def EytzBackWrongFalsely : Prop := eytzBackRow.holds Try.pinned (OpenSpec.ofChange eytzBackWrong)

/- THE SECOND FORM. 'bulk': how many values and letters a reading holds, each counted each time it is reached (what is shared counts as often as it is met; a slice's spare places count too). A statement '..UptoSaid' is the law's where the arguments, and the package variables that the reading takes, are together of bulk at most 1048576: NARROWER than '..Said'. Prove '..Said' where nothing that the law and all that it calls make is longer than what came in: it says more and counts as full. Else prove '..UptoSaid'. A law counts once. -/
mutual
def uptoBulk {H : Type} : DataW H → Nat
  | .lit (.string bytes) => bytes.length + 1
  | .lit _ => 1
  | .nil => 1
  | .ptr d => uptoBulk d + 1
  | .slice elems spare => uptoBulkAll elems + uptoBulkAll spare + 1
  | .agg parts => uptoBulkAll parts + 1
  | .iface _ d => uptoBulk d + 1
  | .map entries => uptoBulkEntries entries + 1
  | .held _ => 1
def uptoBulkAll {H : Type} : List (DataW H) → Nat
  | [] => 0
  | d :: r => uptoBulk d + uptoBulkAll r
def uptoBulkEntries {H : Type} : List (Lit × DataW H) → Nat
  | [] => 0
  | x :: r => uptoBulkEntry x + uptoBulkEntries r
def uptoBulkEntry {H : Type} : Lit × DataW H → Nat
  | (.string bytes, d) => bytes.length + uptoBulk d + 1
  | (_, d) => uptoBulk d + 1
 end
def uptoSmall : (H : Type) → List (DataW H) → Bool := fun _ ds => decide (uptoBulkAll ds ≤ 1048576)
def OpenSpec.upto (s : _root_.Go.ChangeSpec) : _root_.Go.OpenSpec := { _root_.Go.OpenSpec.ofChange s with cond := some uptoSmall }

/-- 'shelfmarklaw22.EytzOrders', WHERE WHAT IT READS IS OF BULK AT MOST 1048576: true; the input reads as it did. -/
def eytzOrdersUptoRow : OpenClaim := { program := "ytcbeldemkfbliaa", sum := "5bcc58f5a02e6e2a3fa02e27ad6993b6d04d3c5daebda3c06327e8c77d77e68a", func := "shelfmark/shelfmarklaw22.EytzOrders", spec := "eytzOrders", unfollowed := true, recurses := true, apart := false, narrowed := true }
def EytzOrdersUptoSaid : Prop := eytzOrdersUptoRow.holds Try.pinned (OpenSpec.upto eytzOrdersSpec)

/-- 'shelfmarklaw22.EytzTree', WHERE WHAT IT READS IS OF BULK AT MOST 1048576: true; the input reads as it did. -/
def eytzTreeUptoRow : OpenClaim := { program := "ytcbeldemkfbliaa", sum := "5bcc58f5a02e6e2a3fa02e27ad6993b6d04d3c5daebda3c06327e8c77d77e68a", func := "shelfmark/shelfmarklaw22.EytzTree", spec := "eytzTree", unfollowed := true, recurses := true, apart := false, narrowed := true }
def EytzTreeUptoSaid : Prop := eytzTreeUptoRow.holds Try.pinned (OpenSpec.upto eytzTreeSpec)

/-- 'shelfmarklaw22.EytzNames', WHERE WHAT IT READS IS OF BULK AT MOST 1048576: true; the input reads as it did. -/
def eytzNamesUptoRow : OpenClaim := { program := "ytcbeldemkfbliaa", sum := "5bcc58f5a02e6e2a3fa02e27ad6993b6d04d3c5daebda3c06327e8c77d77e68a", func := "shelfmark/shelfmarklaw22.EytzNames", spec := "eytzNames", unfollowed := true, recurses := true, apart := false, narrowed := true }
def EytzNamesUptoSaid : Prop := eytzNamesUptoRow.holds Try.pinned (OpenSpec.upto eytzNamesSpec)

/-- 'shelfmarklaw22.EytzTells', WHERE WHAT IT READS IS OF BULK AT MOST 1048576: true; the input reads as it did. -/
def eytzTellsUptoRow : OpenClaim := { program := "ytcbeldemkfbliaa", sum := "5bcc58f5a02e6e2a3fa02e27ad6993b6d04d3c5daebda3c06327e8c77d77e68a", func := "shelfmark/shelfmarklaw22.EytzTells", spec := "eytzTells", unfollowed := true, recurses := true, apart := false, narrowed := true }
def EytzTellsUptoSaid : Prop := eytzTellsUptoRow.holds Try.pinned (OpenSpec.upto eytzTellsSpec)

/-- 'shelfmarklaw22.EytzBack', WHERE WHAT IT READS IS OF BULK AT MOST 1048576: true; the input reads as it did. -/
def eytzBackUptoRow : OpenClaim := { program := "ytcbeldemkfbliaa", sum := "5bcc58f5a02e6e2a3fa02e27ad6993b6d04d3c5daebda3c06327e8c77d77e68a", func := "shelfmark/shelfmarklaw22.EytzBack", spec := "eytzBack", unfollowed := true, recurses := true, apart := false, narrowed := true }
def EytzBackUptoSaid : Prop := eytzBackUptoRow.holds Try.pinned (OpenSpec.upto eytzBackSpec)

end Rows
end Go.Proofs.Ytcbeldemkfbliaa

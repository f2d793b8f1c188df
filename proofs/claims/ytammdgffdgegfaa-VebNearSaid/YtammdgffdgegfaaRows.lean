/-
  No cell of these rows narrows 'for every input' (looked for: loops, veiled, ifaces, maps, wideKeys, modest, calm, conditions, laid).
  DERIVED. THE GIVEN ROWS OF THIS SEAT. 6 by the template 'for every input the law returns true; each argument reads behind the call as it read before'; 0 by the template 'total and deterministic' (their statements: YtammdgffdgegfaaTotals.lean).
  GIVEN WITH THE SEED: the statements are not yours to turn. If you find one false, say at which input.
  Laid BY PROGRAM, IN A SANDBOX (cutbox-rows.mjs): the forced cells as the released guide's own fill.sh prints them over the translation 8d0ac5446fc94c31… (all of the seat's roots in one cut). By AI agents, Wed Nov 11 2026. No macro, syntax, notation, axiom, sorry.
-/
import Derived.Test.YtammdgffdgegfaaChecked
import GoSem.Claim
import GoSem.ClaimJoined
import GoSem.ClaimMapViews
import Derived.JoinedTies
import Derived.KernelRfl
namespace Go.Proofs.Ytammdgffdgegfaa
/- THE CELL 'sum', in the pinned program and in every row, IS THE sha256 OF THE DUMP (.gsa) THAT YtammdgffdgegfaaProg.lean LOADS. Nothing in Lean hashes anything: it is a label: what it is worth is what the hold of that sum in a sandbox is worth. -/
noncomputable def Try.pinned : Pinned := { name := "ytammdgffdgegfaa", sum := "8d0ac5446fc94c3146a5fc7336bafb44a98d892daeaf14cc638501590a313a9b", checked := Try.checked }
namespace Rows
def none {H : Type} : Left H := { results := [], args := [] }

/-- 'shelfmarklaw17.VebTables': WHATEVER THE INPUT: true; the input reads as it did. -/
def vebTablesSpec : ChangeSpec := { name := "vebTables", fn := fun _ => fun
  | [d] => { results := [.lit (.bool true)], args := [d] }
  | _ => none }
def vebTablesRow : OpenClaim := { program := "ytammdgffdgegfaa", sum := "8d0ac5446fc94c3146a5fc7336bafb44a98d892daeaf14cc638501590a313a9b", func := "shelfmark/shelfmarklaw17.VebTables", spec := "vebTables", recurses := true, apart := false }
def VebTablesSaid : Prop := vebTablesRow.holds Try.pinned (OpenSpec.ofChange vebTablesSpec)

/-- ITS FALSE NEIGHBOUR: 'it returns false'. Refute it at one input. -/
def vebTablesWrong : ChangeSpec := { name := "vebTables", fn := fun _ => fun
  | [d] => { results := [.lit (.bool false)], args := [d] }
  | _ => none }
def VebTablesWrongFalsely : Prop := vebTablesRow.holds Try.pinned (OpenSpec.ofChange vebTablesWrong)

/-- 'shelfmarklaw17.VebBack': WHATEVER THE INPUT: true; the input reads as it did. -/
def vebBackSpec : ChangeSpec := { name := "vebBack", fn := fun _ => fun
  | [d1, d2] => { results := [.lit (.bool true)], args := [d1, d2] }
  | _ => none }
def vebBackRow : OpenClaim := { program := "ytammdgffdgegfaa", sum := "8d0ac5446fc94c3146a5fc7336bafb44a98d892daeaf14cc638501590a313a9b", func := "shelfmark/shelfmarklaw17.VebBack", spec := "vebBack", unfollowed := true, recurses := true, apart := false }
def VebBackSaid : Prop := vebBackRow.holds Try.pinned (OpenSpec.ofChange vebBackSpec)

/-- ITS FALSE NEIGHBOUR: 'it returns false'. Refute it at one input. -/
def vebBackWrong : ChangeSpec := { name := "vebBack", fn := fun _ => fun
  | [d1, d2] => { results := [.lit (.bool false)], args := [d1, d2] }
  | _ => none }
def VebBackWrongFalsely : Prop := vebBackRow.holds Try.pinned (OpenSpec.ofChange vebBackWrong)

/-- 'shelfmarklaw17.VebParts': WHATEVER THE INPUT: true; the input reads as it did. -/
def vebPartsSpec : ChangeSpec := { name := "vebParts", fn := fun _ => fun
  | [d1, d2] => { results := [.lit (.bool true)], args := [d1, d2] }
  | _ => none }
def vebPartsRow : OpenClaim := { program := "ytammdgffdgegfaa", sum := "8d0ac5446fc94c3146a5fc7336bafb44a98d892daeaf14cc638501590a313a9b", func := "shelfmark/shelfmarklaw17.VebParts", spec := "vebParts", unfollowed := true, recurses := true, apart := false }
def VebPartsSaid : Prop := vebPartsRow.holds Try.pinned (OpenSpec.ofChange vebPartsSpec)

/-- ITS FALSE NEIGHBOUR: 'it returns false'. Refute it at one input. -/
def vebPartsWrong : ChangeSpec := { name := "vebParts", fn := fun _ => fun
  | [d1, d2] => { results := [.lit (.bool false)], args := [d1, d2] }
  | _ => none }
def VebPartsWrongFalsely : Prop := vebPartsRow.holds Try.pinned (OpenSpec.ofChange vebPartsWrong)

/-- 'shelfmarklaw17.VebTells': WHATEVER THE INPUT: true; the input reads as it did. -/
def vebTellsSpec : ChangeSpec := { name := "vebTells", fn := fun _ => fun
  | [d1, d2, d3] => { results := [.lit (.bool true)], args := [d1, d2, d3] }
  | _ => none }
def vebTellsRow : OpenClaim := { program := "ytammdgffdgegfaa", sum := "8d0ac5446fc94c3146a5fc7336bafb44a98d892daeaf14cc638501590a313a9b", func := "shelfmark/shelfmarklaw17.VebTells", spec := "vebTells", unfollowed := true, recurses := true, apart := false }
def VebTellsSaid : Prop := vebTellsRow.holds Try.pinned (OpenSpec.ofChange vebTellsSpec)

/-- ITS FALSE NEIGHBOUR: 'it returns false'. Refute it at one input. -/
def vebTellsWrong : ChangeSpec := { name := "vebTells", fn := fun _ => fun
  | [d1, d2, d3] => { results := [.lit (.bool false)], args := [d1, d2, d3] }
  | _ => none }
def VebTellsWrongFalsely : Prop := vebTellsRow.holds Try.pinned (OpenSpec.ofChange vebTellsWrong)

/-- 'shelfmarklaw17.VebNear': WHATEVER THE INPUT: true; the input reads as it did. -/
def vebNearSpec : ChangeSpec := { name := "vebNear", fn := fun _ => fun
  | [d1, d2] => { results := [.lit (.bool true)], args := [d1, d2] }
  | _ => none }
def vebNearRow : OpenClaim := { program := "ytammdgffdgegfaa", sum := "8d0ac5446fc94c3146a5fc7336bafb44a98d892daeaf14cc638501590a313a9b", func := "shelfmark/shelfmarklaw17.VebNear", spec := "vebNear", unfollowed := true, recurses := true, apart := false }
def VebNearSaid : Prop := vebNearRow.holds Try.pinned (OpenSpec.ofChange vebNearSpec)

/-- ITS FALSE NEIGHBOUR: 'it returns false'. Refute it at one input. -/
def vebNearWrong : ChangeSpec := { name := "vebNear", fn := fun _ => fun
  | [d1, d2] => { results := [.lit (.bool false)], args := [d1, d2] }
  | _ => none }
def VebNearWrongFalsely : Prop := vebNearRow.holds Try.pinned (OpenSpec.ofChange vebNearWrong)

/-- 'shelfmarklaw17.VebNames': WHATEVER THE INPUT: true; the input reads as it did. -/
def vebNamesSpec : ChangeSpec := { name := "vebNames", fn := fun _ => fun
  | [] => { results := [.lit (.bool true)], args := [] }
  | _ => none }
def vebNamesRow : OpenClaim := { program := "ytammdgffdgegfaa", sum := "8d0ac5446fc94c3146a5fc7336bafb44a98d892daeaf14cc638501590a313a9b", func := "shelfmark/shelfmarklaw17.VebNames", spec := "vebNames", unfollowed := true, recurses := true, apart := false }
def VebNamesSaid : Prop := vebNamesRow.holds Try.pinned (OpenSpec.ofChange vebNamesSpec)

/-- ITS FALSE NEIGHBOUR: 'it returns false'. Refute it at one input. -/
def vebNamesWrong : ChangeSpec := { name := "vebNames", fn := fun _ => fun
  | [] => { results := [.lit (.bool false)], args := [] }
  | _ => none }
def VebNamesWrongFalsely : Prop := vebNamesRow.holds Try.pinned (OpenSpec.ofChange vebNamesWrong)

/- THE SECOND FORM. 'bulk': how many values and letters a reading holds, each counted each time it is reached (what is shared counts as often as it is met; a slice's spare places count too). A statement '..UptoSaid' is the law's where the arguments, and the package variables that the reading takes, are together of bulk at most 1048576: NARROWER than '..Said'. Prove '..Said' where nothing that the law and all that it calls make is longer than what came in: it says more and counts as full. Else prove '..UptoSaid'. A law counts once. -/
mutual
def uptoBulk {H : Type} : DataW H → Nat
  | .lit (.string bytes) => bytes.length + 1
  | .lit _ => 1
  | .nil => 1
  | .ptr d => uptoBulk d + 1
  | .slice elems spare => uptoBulkAll elems + uptoBulkAll spare + 1
  | .agg parts => uptoBulkAll parts + 1
  | .iface _ d => uptoBulk d + 1
  | .map entries => uptoBulkEntries entries + 1
  | .held _ => 1
def uptoBulkAll {H : Type} : List (DataW H) → Nat
  | [] => 0
  | d :: r => uptoBulk d + uptoBulkAll r
def uptoBulkEntries {H : Type} : List (Lit × DataW H) → Nat
  | [] => 0
  | x :: r => uptoBulkEntry x + uptoBulkEntries r
def uptoBulkEntry {H : Type} : Lit × DataW H → Nat
  | (.string bytes, d) => bytes.length + uptoBulk d + 1
  | (_, d) => uptoBulk d + 1
 end
def uptoSmall : (H : Type) → List (DataW H) → Bool := fun _ ds => decide (uptoBulkAll ds ≤ 1048576)
def OpenSpec.upto (s : _root_.Go.ChangeSpec) : _root_.Go.OpenSpec := { _root_.Go.OpenSpec.ofChange s with cond := some uptoSmall }

/-- 'shelfmarklaw17.VebTables', WHERE WHAT IT READS IS OF BULK AT MOST 1048576: true; the input reads as it did. -/
def vebTablesUptoRow : OpenClaim := { program := "ytammdgffdgegfaa", sum := "8d0ac5446fc94c3146a5fc7336bafb44a98d892daeaf14cc638501590a313a9b", func := "shelfmark/shelfmarklaw17.VebTables", spec := "vebTables", recurses := true, apart := false, narrowed := true }
def VebTablesUptoSaid : Prop := vebTablesUptoRow.holds Try.pinned (OpenSpec.upto vebTablesSpec)

/-- 'shelfmarklaw17.VebBack', WHERE WHAT IT READS IS OF BULK AT MOST 1048576: true; the input reads as it did. -/
def vebBackUptoRow : OpenClaim := { program := "ytammdgffdgegfaa", sum := "8d0ac5446fc94c3146a5fc7336bafb44a98d892daeaf14cc638501590a313a9b", func := "shelfmark/shelfmarklaw17.VebBack", spec := "vebBack", unfollowed := true, recurses := true, apart := false, narrowed := true }
def VebBackUptoSaid : Prop := vebBackUptoRow.holds Try.pinned (OpenSpec.upto vebBackSpec)

/-- 'shelfmarklaw17.VebParts', WHERE WHAT IT READS IS OF BULK AT MOST 1048576: true; the input reads as it did. -/
def vebPartsUptoRow : OpenClaim := { program := "ytammdgffdgegfaa", sum := "8d0ac5446fc94c3146a5fc7336bafb44a98d892daeaf14cc638501590a313a9b", func := "shelfmark/shelfmarklaw17.VebParts", spec := "vebParts", unfollowed := true, recurses := true, apart := false, narrowed := true }
def VebPartsUptoSaid : Prop := vebPartsUptoRow.holds Try.pinned (OpenSpec.upto vebPartsSpec)

/-- 'shelfmarklaw17.VebTells', WHERE WHAT IT READS IS OF BULK AT MOST 1048576: true; the input reads as it did. -/
def vebTellsUptoRow : OpenClaim := { program := "ytammdgffdgegfaa", sum := "8d0ac5446fc94c3146a5fc7336bafb44a98d892daeaf14cc638501590a313a9b", func := "shelfmark/shelfmarklaw17.VebTells", spec := "vebTells", unfollowed := true, recurses := true, apart := false, narrowed := true }
def VebTellsUptoSaid : Prop := vebTellsUptoRow.holds Try.pinned (OpenSpec.upto vebTellsSpec)

/-- 'shelfmarklaw17.VebNear', WHERE WHAT IT READS IS OF BULK AT MOST 1048576: true; the input reads as it did. -/
def vebNearUptoRow : OpenClaim := { program := "ytammdgffdgegfaa", sum := "8d0ac5446fc94c3146a5fc7336bafb44a98d892daeaf14cc638501590a313a9b", func := "shelfmark/shelfmarklaw17.VebNear", spec := "vebNear", unfollowed := true, recurses := true, apart := false, narrowed := true }
def VebNearUptoSaid : Prop := vebNearUptoRow.holds Try.pinned (OpenSpec.upto vebNearSpec)

/-- 'shelfmarklaw17.VebNames', WHERE WHAT IT READS IS OF BULK AT MOST 1048576: true; the input reads as it did. -/
def vebNamesUptoRow : OpenClaim := { program := "ytammdgffdgegfaa", sum := "8d0ac5446fc94c3146a5fc7336bafb44a98d892daeaf14cc638501590a313a9b", func := "shelfmark/shelfmarklaw17.VebNames", spec := "vebNames", unfollowed := true, recurses := true, apart := false, narrowed := true }
def VebNamesUptoSaid : Prop := vebNamesUptoRow.holds Try.pinned (OpenSpec.upto vebNamesSpec)

end Rows
end Go.Proofs.Ytammdgffdgegfaa

/-
  No cell of these rows narrows 'for every input' (looked for: loops, veiled, ifaces, maps, wideKeys, modest, calm, conditions, laid).
  DERIVED. THE GIVEN ROWS OF THIS SEAT. 6 by the template 'for every input the law returns true; each argument reads behind the call as it read before'; 0 by the template 'total and deterministic' (their statements: YtelckhfmchnpnaaTotals.lean).
  GIVEN WITH THE SEED: the statements are not yours to turn. If you find one false, say at which input.
  Laid BY PROGRAM, IN A SANDBOX (cutbox-rows.mjs): the forced cells as the released guide's own fill.sh prints them over the translation 301acd0a8528b465… (all of the seat's roots in one cut). By AI agents, Wed Nov 11 2026. No macro, syntax, notation, axiom, sorry.
-/
import Derived.Test.YtelckhfmchnpnaaChecked
import GoSem.Claim
import GoSem.ClaimJoined
import GoSem.ClaimMapViews
import Derived.JoinedTies
import Derived.KernelRfl
namespace Go.Proofs.Ytelckhfmchnpnaa
/- THE CELL 'sum', in the pinned program and in every row, IS THE sha256 OF THE DUMP (.gsa) THAT YtelckhfmchnpnaaProg.lean LOADS. Nothing in Lean hashes anything: it is a label: what it is worth is what the hold of that sum in a sandbox is worth. -/
noncomputable def Try.pinned : Pinned := { name := "ytelckhfmchnpnaa", sum := "301acd0a8528b465b228ea4cedae7a46f57a5319d7bcffc7515d4af01f587f70", checked := Try.checked }
namespace Rows
def none {H : Type} : Left H := { results := [], args := [] }

/-- 'shelfmarklaw18.IndexTells': WHATEVER THE INPUT: true; the input reads as it did. -/
def indexTellsSpec : ChangeSpec := { name := "indexTells", fn := fun _ => fun
  | [d1, d2, d3] => { results := [.lit (.bool true)], args := [d1, d2, d3] }
  | _ => none }
def indexTellsRow : OpenClaim := { program := "ytelckhfmchnpnaa", sum := "301acd0a8528b465b228ea4cedae7a46f57a5319d7bcffc7515d4af01f587f70", func := "shelfmark/shelfmarklaw18.IndexTells", spec := "indexTells", unfollowed := true, recurses := true, apart := false }
def IndexTellsSaid : Prop := indexTellsRow.holds Try.pinned (OpenSpec.ofChange indexTellsSpec)

/-- ITS FALSE NEIGHBOUR: 'it returns false'. Refute it at one input. -/
def indexTellsWrong : ChangeSpec := { name := "indexTells", fn := fun _ => fun
  | [d1, d2, d3] => { results := [.lit (.bool false)], args := [d1, d2, d3] }
  | _ => none }
def IndexTellsWrongFalsely : Prop := indexTellsRow.holds Try.pinned (OpenSpec.ofChange indexTellsWrong)

/-- 'shelfmarklaw18.IndexBuilds': WHATEVER THE INPUT: true; the input reads as it did. -/
def indexBuildsSpec : ChangeSpec := { name := "indexBuilds", fn := fun _ => fun
  | [d1, d2] => { results := [.lit (.bool true)], args := [d1, d2] }
  | _ => none }
def indexBuildsRow : OpenClaim := { program := "ytelckhfmchnpnaa", sum := "301acd0a8528b465b228ea4cedae7a46f57a5319d7bcffc7515d4af01f587f70", func := "shelfmark/shelfmarklaw18.IndexBuilds", spec := "indexBuilds", unfollowed := true, recurses := true, apart := false }
def IndexBuildsSaid : Prop := indexBuildsRow.holds Try.pinned (OpenSpec.ofChange indexBuildsSpec)

/-- ITS FALSE NEIGHBOUR: 'it returns false'. Refute it at one input. -/
def indexBuildsWrong : ChangeSpec := { name := "indexBuilds", fn := fun _ => fun
  | [d1, d2] => { results := [.lit (.bool false)], args := [d1, d2] }
  | _ => none }
def IndexBuildsWrongFalsely : Prop := indexBuildsRow.holds Try.pinned (OpenSpec.ofChange indexBuildsWrong)

/-- 'shelfmarklaw18.IndexSums': WHATEVER THE INPUT: true; the input reads as it did. -/
def indexSumsSpec : ChangeSpec := { name := "indexSums", fn := fun _ => fun
  | [d] => { results := [.lit (.bool true)], args := [d] }
  | _ => none }
def indexSumsRow : OpenClaim := { program := "ytelckhfmchnpnaa", sum := "301acd0a8528b465b228ea4cedae7a46f57a5319d7bcffc7515d4af01f587f70", func := "shelfmark/shelfmarklaw18.IndexSums", spec := "indexSums", unfollowed := true, recurses := true, apart := false }
def IndexSumsSaid : Prop := indexSumsRow.holds Try.pinned (OpenSpec.ofChange indexSumsSpec)

/-- ITS FALSE NEIGHBOUR: 'it returns false'. Refute it at one input. -/
def indexSumsWrong : ChangeSpec := { name := "indexSums", fn := fun _ => fun
  | [d] => { results := [.lit (.bool false)], args := [d] }
  | _ => none }
def IndexSumsWrongFalsely : Prop := indexSumsRow.holds Try.pinned (OpenSpec.ofChange indexSumsWrong)

/-- 'shelfmarklaw18.IndexNames': WHATEVER THE INPUT: true; the input reads as it did. -/
def indexNamesSpec : ChangeSpec := { name := "indexNames", fn := fun _ => fun
  | [] => { results := [.lit (.bool true)], args := [] }
  | _ => none }
def indexNamesRow : OpenClaim := { program := "ytelckhfmchnpnaa", sum := "301acd0a8528b465b228ea4cedae7a46f57a5319d7bcffc7515d4af01f587f70", func := "shelfmark/shelfmarklaw18.IndexNames", spec := "indexNames", unfollowed := true, recurses := true, apart := false }
def IndexNamesSaid : Prop := indexNamesRow.holds Try.pinned (OpenSpec.ofChange indexNamesSpec)

/-- ITS FALSE NEIGHBOUR: 'it returns false'. Refute it at one input. -/
def indexNamesWrong : ChangeSpec := { name := "indexNames", fn := fun _ => fun
  | [] => { results := [.lit (.bool false)], args := [] }
  | _ => none }
def IndexNamesWrongFalsely : Prop := indexNamesRow.holds Try.pinned (OpenSpec.ofChange indexNamesWrong)

/-- 'shelfmarklaw18.IndexAnother': WHATEVER THE INPUT: true; the input reads as it did. -/
def indexAnotherSpec : ChangeSpec := { name := "indexAnother", fn := fun _ => fun
  | [d1, d2, d3] => { results := [.lit (.bool true)], args := [d1, d2, d3] }
  | _ => none }
def indexAnotherRow : OpenClaim := { program := "ytelckhfmchnpnaa", sum := "301acd0a8528b465b228ea4cedae7a46f57a5319d7bcffc7515d4af01f587f70", func := "shelfmark/shelfmarklaw18.IndexAnother", spec := "indexAnother", unfollowed := true, recurses := true, apart := false }
def IndexAnotherSaid : Prop := indexAnotherRow.holds Try.pinned (OpenSpec.ofChange indexAnotherSpec)

/-- ITS FALSE NEIGHBOUR: 'it returns false'. Refute it at one input. -/
def indexAnotherWrong : ChangeSpec := { name := "indexAnother", fn := fun _ => fun
  | [d1, d2, d3] => { results := [.lit (.bool false)], args := [d1, d2, d3] }
  | _ => none }
def IndexAnotherWrongFalsely : Prop := indexAnotherRow.holds Try.pinned (OpenSpec.ofChange indexAnotherWrong)

/-- 'shelfmarklaw18.IndexTrue': WHATEVER THE INPUT: true; the input reads as it did. -/
def indexTrueSpec : ChangeSpec := { name := "indexTrue", fn := fun _ => fun
  | [d1, d2] => { results := [.lit (.bool true)], args := [d1, d2] }
  | _ => none }
def indexTrueRow : OpenClaim := { program := "ytelckhfmchnpnaa", sum := "301acd0a8528b465b228ea4cedae7a46f57a5319d7bcffc7515d4af01f587f70", func := "shelfmark/shelfmarklaw18.IndexTrue", spec := "indexTrue", unfollowed := true, recurses := true, apart := false }
def IndexTrueSaid : Prop := indexTrueRow.holds Try.pinned (OpenSpec.ofChange indexTrueSpec)

/-- ITS FALSE NEIGHBOUR: 'it returns false'. Refute it at one input. -/
def indexTrueWrong : ChangeSpec := { name := "indexTrue", fn := fun _ => fun
  | [d1, d2] => { results := [.lit (.bool false)], args := [d1, d2] }
  | _ => none }
def IndexTrueWrongFalsely : Prop := indexTrueRow.holds Try.pinned (OpenSpec.ofChange indexTrueWrong)

/- THE SECOND FORM. 'bulk': how many values and letters a reading holds, each counted each time it is reached (what is shared counts as often as it is met; a slice's spare places count too). A statement '..UptoSaid' is the law's where the arguments, and the package variables that the reading takes, are together of bulk at most 1048576: NARROWER than '..Said'. Prove '..Said' where nothing that the law and all that it calls make is longer than what came in: it says more and counts as full. Else prove '..UptoSaid'. A law counts once. -/
mutual
def uptoBulk {H : Type} : DataW H → Nat
  | .lit (.string bytes) => bytes.length + 1
  | .lit _ => 1
  | .nil => 1
  | .ptr d => uptoBulk d + 1
  | .slice elems spare => uptoBulkAll elems + uptoBulkAll spare + 1
  | .agg parts => uptoBulkAll parts + 1
  | .iface _ d => uptoBulk d + 1
  | .map entries => uptoBulkEntries entries + 1
  | .held _ => 1
def uptoBulkAll {H : Type} : List (DataW H) → Nat
  | [] => 0
  | d :: r => uptoBulk d + uptoBulkAll r
def uptoBulkEntries {H : Type} : List (Lit × DataW H) → Nat
  | [] => 0
  | x :: r => uptoBulkEntry x + uptoBulkEntries r
def uptoBulkEntry {H : Type} : Lit × DataW H → Nat
  | (.string bytes, d) => bytes.length + uptoBulk d + 1
  | (_, d) => uptoBulk d + 1
 end
def uptoSmall : (H : Type) → List (DataW H) → Bool := fun _ ds => decide (uptoBulkAll ds ≤ 1048576)
def OpenSpec.upto (s : _root_.Go.ChangeSpec) : _root_.Go.OpenSpec := { _root_.Go.OpenSpec.ofChange s with cond := some uptoSmall }

/-- 'shelfmarklaw18.IndexTells', WHERE WHAT IT READS IS OF BULK AT MOST 1048576: true; the input reads as it did. -/
def indexTellsUptoRow : OpenClaim := { program := "ytelckhfmchnpnaa", sum := "301acd0a8528b465b228ea4cedae7a46f57a5319d7bcffc7515d4af01f587f70", func := "shelfmark/shelfmarklaw18.IndexTells", spec := "indexTells", unfollowed := true, recurses := true, apart := false, narrowed := true }
def IndexTellsUptoSaid : Prop := indexTellsUptoRow.holds Try.pinned (OpenSpec.upto indexTellsSpec)

/-- 'shelfmarklaw18.IndexBuilds', WHERE WHAT IT READS IS OF BULK AT MOST 1048576: true; the input reads as it did. -/
def indexBuildsUptoRow : OpenClaim := { program := "ytelckhfmchnpnaa", sum := "301acd0a8528b465b228ea4cedae7a46f57a5319d7bcffc7515d4af01f587f70", func := "shelfmark/shelfmarklaw18.IndexBuilds", spec := "indexBuilds", unfollowed := true, recurses := true, apart := false, narrowed := true }
def IndexBuildsUptoSaid : Prop := indexBuildsUptoRow.holds Try.pinned (OpenSpec.upto indexBuildsSpec)

/-- 'shelfmarklaw18.IndexSums', WHERE WHAT IT READS IS OF BULK AT MOST 1048576: true; the input reads as it did. -/
def indexSumsUptoRow : OpenClaim := { program := "ytelckhfmchnpnaa", sum := "301acd0a8528b465b228ea4cedae7a46f57a5319d7bcffc7515d4af01f587f70", func := "shelfmark/shelfmarklaw18.IndexSums", spec := "indexSums", unfollowed := true, recurses := true, apart := false, narrowed := true }
def IndexSumsUptoSaid : Prop := indexSumsUptoRow.holds Try.pinned (OpenSpec.upto indexSumsSpec)

/-- 'shelfmarklaw18.IndexNames', WHERE WHAT IT READS IS OF BULK AT MOST 1048576: true; the input reads as it did. -/
def indexNamesUptoRow : OpenClaim := { program := "ytelckhfmchnpnaa", sum := "301acd0a8528b465b228ea4cedae7a46f57a5319d7bcffc7515d4af01f587f70", func := "shelfmark/shelfmarklaw18.IndexNames", spec := "indexNames", unfollowed := true, recurses := true, apart := false, narrowed := true }
def IndexNamesUptoSaid : Prop := indexNamesUptoRow.holds Try.pinned (OpenSpec.upto indexNamesSpec)

/-- 'shelfmarklaw18.IndexAnother', WHERE WHAT IT READS IS OF BULK AT MOST 1048576: true; the input reads as it did. -/
def indexAnotherUptoRow : OpenClaim := { program := "ytelckhfmchnpnaa", sum := "301acd0a8528b465b228ea4cedae7a46f57a5319d7bcffc7515d4af01f587f70", func := "shelfmark/shelfmarklaw18.IndexAnother", spec := "indexAnother", unfollowed := true, recurses := true, apart := false, narrowed := true }
def IndexAnotherUptoSaid : Prop := indexAnotherUptoRow.holds Try.pinned (OpenSpec.upto indexAnotherSpec)

/-- 'shelfmarklaw18.IndexTrue', WHERE WHAT IT READS IS OF BULK AT MOST 1048576: true; the input reads as it did. -/
def indexTrueUptoRow : OpenClaim := { program := "ytelckhfmchnpnaa", sum := "301acd0a8528b465b228ea4cedae7a46f57a5319d7bcffc7515d4af01f587f70", func := "shelfmark/shelfmarklaw18.IndexTrue", spec := "indexTrue", unfollowed := true, recurses := true, apart := false, narrowed := true }
def IndexTrueUptoSaid : Prop := indexTrueUptoRow.holds Try.pinned (OpenSpec.upto indexTrueSpec)

end Rows
end Go.Proofs.Ytelckhfmchnpnaa

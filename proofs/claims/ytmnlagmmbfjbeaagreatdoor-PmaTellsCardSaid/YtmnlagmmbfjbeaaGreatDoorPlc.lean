/- Walks of spread's places (an iterator), of slices.AppendSeq and Collect at ints, of spread.Places, of the reference 07. -/
import Derived.Test.YtmnlagmmbfjbeaaGreatDoorPrsAll
import Derived.Test.YtmnlagmmbfjbeaaGreatDoorE4F
namespace Go.Proofs.YtmnlagmmbfjbeaaGreatDoor
open Go.RowKit Go.Shelf
attribute [local go_sem] Oper.semAt_some
set_option linter.unusedVariables false
set_option linter.unusedSimpArgs false

/-- the boxes of places -/
structure PlBox (W : World) (b1 b2 b3 : Nat) (m lo hi : Nat) : Prop where
  n : W.cell? ⟨b1, 0, none⟩ = some (.int .i64 m)
  lo : W.cell? ⟨b2, 0, none⟩ = some (.int .i64 lo)
  hi : W.cell? ⟨b3, 0, none⟩ = some (.int .i64 hi)
theorem PlBox.below {W W' : World} {b1 b2 b3 m lo hi : Nat} (h : PlBox W b1 b2 b3 m lo hi) (hb : Below W.heap.size W W') : PlBox W' b1 b2 b3 m lo hi :=
  ⟨(hb.cell (World.block_lt_of_cell? _ _ h.n)).trans h.n, (hb.cell (World.block_lt_of_cell? _ _ h.lo)).trans h.lo, (hb.cell (World.block_lt_of_cell? _ _ h.hi)).trans h.hi⟩
theorem PlBox.kept {S : Nat → Prop} {W W' : World} {b1 b2 b3 m lo hi : Nat} (h : PlBox W b1 b2 b3 m lo hi) (hk : KpS S W W') (s1 : S b1) (s2 : S b2) (s3 : S b3) : PlBox W' b1 b2 b3 m lo hi :=
  ⟨hk.cell (a := ⟨b1, 0, none⟩) s1 h.n, hk.cell (a := ⟨b2, 0, none⟩) s2 h.lo, hk.cell (a := ⟨b3, 0, none⟩) s3 h.hi⟩
structure AppN (l : List Int) (B : Nat) (w : World) (k : Nat) (W : World) : Prop where
  own : ∃ v, W.cell? ⟨B, 0, none⟩ = some v ∧ W.ownsRow (B + 1) 3 1 v k ((l.take k).map (Value.int .i64))
  fz : W.frozen? ⟨B, 0, none⟩ = false
  bel : Below B w W
theorem AppN.calm {l : List Int} {B M : Nat} {w : World} {k : Nat} {W W' : World} (h : AppN l B w k W) (hc : Calm M W W') (hB : B ≤ M) : AppN l B w k W' := by
  obtain ⟨⟨v, h1, h2⟩, h3, h4⟩ := h
  exact ⟨⟨v, hc.cell h1, hc.owns h2⟩, hc.frozen h1 h3, hc.below hB h4⟩

end Go.Proofs.YtmnlagmmbfjbeaaGreatDoor

/-
  HeapNames: the limit, the errors and the examples.
  No condition.
-/
import Derived.Test.YtbbacfhhkfgaoaaHeapAlive
namespace Go.Proofs.Ytbbacfhhkfgaoaa
open Go.RowKit Go.Shelf
set_option linter.unusedVariables false
set_option linter.unusedSimpArgs false

set_option maxRecDepth 100000 in
set_option maxHeartbeats 2000000 in
theorem HeapNames_walk (w : World) : Calls Try.prog 5 #[] w fun e w' => e = .returned (.bool true) ∧ Below w.heap.size w w' := by
  go_enter Try.func5, Try.ntmps5
  go_wp2_with fail
  refine (Size_at 15 0 2 (by decide) (by decide) _).mono ?_
  rintro e w' ⟨rfl, rfl⟩
  go_wp2_with fail
  refine (Size_at 0 0 2 (by decide) (by decide) _).mono ?_
  rintro e w' ⟨rfl, rfl⟩
  go_wp2_with fail
  refine (Size_at 14 16383 0 (by decide) (by decide) _).mono ?_
  rintro e w' ⟨rfl, rfl⟩
  go_wp2_with fail
  refine (Leaf_at 3 4 0 2 (by decide) (by decide) _).mono ?_
  rintro e w' ⟨rfl, rfl⟩
  go_wp2_with fail
  refine (Depth_at 3 8 0 2 (by decide) (by decide) _).mono ?_
  rintro e w1 ⟨rfl, hb1⟩
  have hz_w1 := hb1.size
  try simp only [World.size_alloc, World.size_setCell] at hz_w1
  go_wp2_with fail
  refine (Path_at 3 0 2 [] (by rw [ptR, show ndE 3 0 = 2 by decide]; rfl) (by decide) _).mono ?_
  rintro e w2 ⟨v2, rfl, ho2, hb2⟩
  have hz_w2 := hb2.size
  try simp only [World.size_alloc, World.size_setCell] at hz_w2
  go_wp2_with fail
  refine (Depth_at 3 7 2 0 (by decide) (by decide) _).mono ?_
  rintro e w3 ⟨rfl, hb3⟩
  have hz_w3 := hb3.size
  try simp only [World.size_alloc, World.size_setCell] at hz_w3
  go_wp2_with fail
  refine (Split_at 1 0 0 6 (by decide) (by decide) (by decide) _).mono ?_
  rintro e w' ⟨rfl, rfl⟩
  go_wp2_with fail
  refine (Under_at 1 1 0 1 0 (by decide) (by decide) (by decide) _).mono ?_
  rintro e w4 ⟨rfl, hb4⟩
  have hz_w4 := hb4.size
  try simp only [World.size_alloc, World.size_setCell] at hz_w4
  go_wp2_with fail
  refine (Split_at 14 7 7 0 (by decide) (by decide) (by decide) _).mono ?_
  rintro e w' ⟨rfl, rfl⟩
  go_wp2_with fail
  refine (alive16 _).mono ?_
  rintro e w5 ⟨rfl, hb5⟩
  have hz_w5 := hb5.size
  try simp only [World.size_alloc, World.size_setCell] at hz_w5
  have hB5 : Below w.heap.size w w5 := by (repeat (first | (with_reducible exact Below.refl _ _) | (with_reducible assumption) | (with_reducible exact Hid.out (by with_reducible assumption)) | (with_reducible refine Below.alloc ?_ ?_ _) | (with_reducible refine Below.setCell ?_ ?_ _) | (with_reducible refine below_drewN ?_ _) | (with_reducible refine Below.drew ?_) | (with_reducible refine below_via (by with_reducible assumption) ?_ ?_) | (first | (with_reducible assumption) | omega | (simp only [World.size_alloc, World.size_setCell, World.size_drew, World.heap_drewN] <;> omega) | (simp <;> omega))))
  clear ho2
  go_wp2
  go_ret
  exact ⟨rfl, by (repeat (first | (with_reducible exact Below.refl _ _) | (with_reducible assumption) | (with_reducible exact Hid.out (by with_reducible assumption)) | (with_reducible refine Below.alloc ?_ ?_ _) | (with_reducible refine Below.setCell ?_ ?_ _) | (with_reducible refine below_drewN ?_ _) | (with_reducible refine Below.drew ?_) | (with_reducible refine below_via (by with_reducible assumption) ?_ ?_) | (first | (with_reducible assumption) | omega | (simp only [World.size_alloc, World.size_setCell, World.size_drew, World.heap_drewN] <;> omega) | (simp <;> omega))))⟩
end Go.Proofs.Ytbbacfhhkfgaoaa

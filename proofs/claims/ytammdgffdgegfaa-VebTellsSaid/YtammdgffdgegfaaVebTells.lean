/-
  VebTells: a node's place, what stands at a place, and how many runs a path goes through, are as the reference says.
  No condition.
-/
import Derived.Test.YtammdgffdgegfaaVebNear
import Derived.Test.YtammdgffdgegfaaStep
namespace Go.Proofs.Ytammdgffdgegfaa
open Go.RowKit Go.Shelf
set_option linter.unusedVariables false
set_option linter.unusedSimpArgs false

set_option maxHeartbeats 1000000 in
theorem VebTells_walk (l n run : Int) (w : World) :
    Calls Try.prog 6 #[.int .i64 l, .int .i64 n, .int .i64 run] w fun e w' => e = .returned (.bool true) ∧ Below w.heap.size w w' := by
  have P1 := fun w => Place_any l n w
  have P2 := fun w => Place17_any l n w
  have P3 := fun w => Node_any l n w
  have P4 := fun w => Node17_any l n w
  have P5 := fun w => Near_any l n run w
  have P6 := fun w => Near17_any l n run w
  generalize vpR l n = y1 at *
  generalize ndE l n = x1 at *
  generalize vnR l n = y2 at *
  generalize vnE l n = x2 at *
  generalize nrR l n run = y3 at *
  generalize nrE l n run = x3 at *
  have P1 := Lib.hid P1; have P2 := Lib.hid P2; have P3 := Lib.hid P3; have P4 := Lib.hid P4; have P5 := Lib.hid P5; have P6 := Lib.hid P6
  have hn : ∀ z : Int, (z == z) = true := fun z => by simp
  have D1 := hn y1; have D2 := hn y2; have D3 := hn y3
  have E1 := hn x1; have E2 := hn x2; have E3 := hn x3
  clear hn
  go_enter Try.func6, Try.ntmps6
  go_wp2_with fail
  refine (P1.out _).mono ?_
  rintro e w1 ⟨rfl, hb1⟩
  have hz_w1 := hb1.size
  try simp only [World.size_alloc, World.size_setCell] at hz_w1
  go_wp2_with fail
  refine (P2.out _).mono ?_
  rintro e w2 ⟨rfl, hb2⟩
  have hz_w2 := hb2.size
  try simp only [World.size_alloc, World.size_setCell] at hz_w2
  go_wp2_with fail
  refine (P3.out _).mono ?_
  rintro e w3 ⟨rfl, hb3⟩
  have hz_w3 := hb3.size
  try simp only [World.size_alloc, World.size_setCell] at hz_w3
  go_wp2_with fail
  refine (P4.out _).mono ?_
  rintro e w4 ⟨rfl, hb4⟩
  have hz_w4 := hb4.size
  try simp only [World.size_alloc, World.size_setCell] at hz_w4
  go_wp2_with fail
  refine (P5.out _).mono ?_
  rintro e w5 ⟨rfl, hb5⟩
  have hz_w5 := hb5.size
  try simp only [World.size_alloc, World.size_setCell] at hz_w5
  go_wp2_with fail
  refine (P6.out _).mono ?_
  rintro e w6 ⟨rfl, hb6⟩
  have hz_w6 := hb6.size
  try simp only [World.size_alloc, World.size_setCell] at hz_w6
  have hB : Below w.heap.size w w6 := by (repeat (first | (with_reducible exact Below.refl _ _) | (with_reducible assumption) | (with_reducible exact Hid.out (by with_reducible assumption)) | (with_reducible refine Below.alloc ?_ ?_ _) | (with_reducible refine Below.setCell ?_ ?_ _) | (with_reducible refine below_drewN ?_ _) | (with_reducible refine Below.drew ?_) | (with_reducible refine below_via (by with_reducible assumption) ?_ ?_) | (first | (with_reducible assumption) | omega | (simp only [World.size_alloc, World.size_setCell, World.size_drew, World.heap_drewN] <;> omega) | (simp <;> omega))))
  go_wp2
  go_ret
  exact ⟨by simp, hB⟩
end Go.Proofs.Ytammdgffdgegfaa

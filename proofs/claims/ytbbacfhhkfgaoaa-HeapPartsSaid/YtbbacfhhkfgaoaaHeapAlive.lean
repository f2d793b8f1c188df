/- The walk of heap's examples; calls at known values. -/
import Derived.Test.YtbbacfhhkfgaoaaHeapTells
namespace Go.Proofs.Ytbbacfhhkfgaoaa
open Go.RowKit Go.Shelf
set_option linter.unusedVariables false
set_option linter.unusedSimpArgs false

theorem lit_ints (w : World) (xs : List Int) (t : TypeId) : IsInts (w.alloc (.cells (xs.map (Value.int .i64)).toArray t)) (some ⟨w.heap.size, 0, none⟩) xs := by
  intro i hi
  refine ⟨_, _, rfl, by simp, fun j hj => ?_⟩
  rw [World.cell?_alloc_at _ _ _ _ rfl]
  simp [hj]

theorem Size_at (l a e : Int) (h1 : szR l = a) (h2 : lvE l = e) (w : World) : Calls Try.prog 12 #[.int .i64 l] w fun x w' => x = .returned (.tuple #[.int .i64 a, .int .i64 e]) ∧ w = w' := by
  subst h1 h2; exact Size_any l w
theorem Leaf_at (l n a e : Int) (h1 : lfR l n = a) (h2 : lfE l n = e) (w : World) : Calls Try.prog 10 #[.int .i64 l, .int .i64 n] w fun x w' => x = .returned (.tuple #[.int .i64 a, .int .i64 e]) ∧ w = w' := by
  subst h1 h2; exact Leaf_any l n w
theorem Depth_at (l n a e : Int) (h1 : dpR l n = a) (h2 : ndE l n = e) (w : World) : Calls Try.prog 13 #[.int .i64 l, .int .i64 n] w (Gives w (.tuple #[.int .i64 a, .int .i64 e])) := by
  subst h1 h2; exact Depth_any l n w
theorem Under_at (l n a b e : Int) (h1 : unA l n = a) (h3 : unB l n = b) (h2 : ndE l n = e) (w : World) : Calls Try.prog 9 #[.int .i64 l, .int .i64 n] w (Gives w (.tuple #[.int .i64 a, .int .i64 b, .int .i64 e])) := by
  subst h1 h2 h3; exact Under_gives l n w
theorem Split_at (l a b e : Int) (h1 : spU l = a) (h3 : spL l = b) (h2 : spE l = e) (w : World) : Calls Try.prog 11 #[.int .i64 l] w fun x w' => x = .returned (.tuple #[.int .i64 a, .int .i64 b, .int .i64 e]) ∧ w = w' := by
  subst h1 h2 h3; exact Split_any l w
theorem Path_at (l n e : Int) (xs : List Int) (h1 : ptR l n = xs) (h2 : ndE l n = e) (w : World) : Calls Try.prog 14 #[.int .i64 l, .int .i64 n] w (FreshInts2 w xs (.int .i64 e)) := by
  subst h1 h2; exact Path_any l n w
theorem ptR_35 : ptR 3 5 = [1, 2, 5] := by
  rw [ptR, show ndE 3 5 = 0 by decide]
  have : pth 5 = [1, 2, 5] := by rw [pth_two (by omega), pth_two (by omega), pth_one (by omega)]; rfl
  simp [this, ints]

set_option maxRecDepth 100000 in
theorem alive16 (w : World) : Calls Try.prog 8 #[] w (Gives w (.bool true)) := by
  go_enter Try.func8, Try.ntmps8
  go_wp2_with fail
  refine (Size_at 3 7 0 (by decide) (by decide) _).mono ?_
  rintro e w' ⟨rfl, rfl⟩
  go_wp2_with fail
  refine (Leaf_at 3 1 5 0 (by decide) (by decide) _).mono ?_
  rintro e w' ⟨rfl, rfl⟩
  go_wp2_with fail
  refine (Path_at 3 5 0 [1, 2, 5] ptR_35 (by decide) _).mono ?_
  rintro e w1 ⟨v1, rfl, ho1, hb1⟩
  go_wp2_with fail
  refine (Under_at 3 3 2 4 0 (by decide) (by decide) (by decide) _).mono ?_
  rintro e w2 ⟨rfl, hb2⟩
  have ho1 := owns_below ho1 hb2
  obtain ⟨a1, k1, rfl, hi1, -⟩ := ints_of_owns ho1
  have HI1 := Lib.hid hi1
  clear hi1 ho1
  have hz1 := hb1.size; have hz2 := hb2.size
  have hbel : Below w.heap.size w w2 := hb1.trans (hb2.mono (by omega))
  go_wp2_with fail
  refine (Split_at 3 1 2 0 (by decide) (by decide) (by decide) _).mono ?_
  rintro e w' ⟨rfl, rfl⟩
  go_wp2_with fail
  refine (SameInts_ok a1 _ k1 3 [1, 2, 5] [1, 2, 5] _ (HI1.out.below ((Below.refl _ _).alloc (Nat.le_refl _) _)) (lit_ints w2 [1, 2, 5] _) (by decide)).mono ?_
  rintro e w5 ⟨rfl, n5, rfl⟩
  go_wp2
  go_ret
  exact ⟨by simp, below_drewN (hbel.alloc (by omega) _) _⟩
end Go.Proofs.Ytbbacfhhkfgaoaa

/-
  HeapTells: sizes, leaves, depths, paths, the leaves under a node, and how a tree is parted, are as the reference says.
  No condition.
-/
import Derived.Test.YtbbacfhhkfgaoaaHeapRef
import Derived.Test.YtbbacfhhkfgaoaaSame
import Derived.Test.YtbbacfhhkfgaoaaStep
namespace Go.Proofs.Ytbbacfhhkfgaoaa
open Go.RowKit Go.Shelf
set_option linter.unusedVariables false
set_option linter.unusedSimpArgs false

theorem errs_i64 {x : Int} (h0 : 0 ≤ x) (h1 : x ≤ 10) : IntKind.i64.wrap x = x := IntWalk.i64_in _ (by omega)

theorem Under_gives (l n : Int) (w : World) : Calls Try.prog 9 #[.int .i64 l, .int .i64 n] w (Gives w (.tuple #[.int .i64 (unA l n), .int .i64 (unB l n), .int .i64 (ndE l n)])) :=
  (Under_any l n w).mono fun e w' ⟨h1, k, h2⟩ => ⟨h1, by rw [h2]; exact below_drewN (Below.refl _ _) k⟩

set_option maxRecDepth 100000 in
set_option maxHeartbeats 2000000 in
theorem HeapTells_walk (l n : Int) (w : World) :
    Calls Try.prog 6 #[.int .i64 l, .int .i64 n] w fun e w' => e = .returned (.bool true) ∧ Below w.heap.size w w' := by
  have b1 : 0 ≤ lvE l ∧ lvE l ≤ 2 := by unfold lvE; split <;> omega
  have b2 : 0 ≤ lfE l n ∧ lfE l n ≤ 2 := by unfold lfE; split <;> omega
  have b3 : 0 ≤ ndE l n ∧ ndE l n ≤ 2 := by unfold ndE; split <;> omega
  have b4 : 0 ≤ spE l ∧ spE l ≤ 6 := by unfold spE; split <;> (try split) <;> omega
  obtain ⟨b1, c1⟩ := b1
  obtain ⟨b2, c2⟩ := b2
  obtain ⟨b3, c3⟩ := b3
  obtain ⟨b4, c4⟩ := b4
  have hlen : (ptR l n).length ≤ 1000000000 := by
    unfold ptR
    split
    · rename_i h
      obtain ⟨h1, h2, h3, h4⟩ := ndE_zero h
      have := (pow_bdI l h2).2
      rw [ints_length, pth_length]
      have := Nat.log2_le_self n.toNat
      omega
    · simp
  have P1 := fun w => Size_any l w
  have P2 := fun w => Size16_any l w
  have P3 := fun w => Leaf_any l n w
  have P4 := fun w => Leaf16_any l n w
  have P5 := fun w => Depth_any l n w
  have P6 := fun w => Depth16_any l n w
  have P7 := fun w => Path_any l n w
  have P8 := fun w => Path16_any l n w
  have P9 := fun w => Under_gives l n w
  have P10 := fun w => Under16_any l n w
  have P11 := fun w => Split_any l w
  have P12 := fun w => Split16_any l w
  generalize szR l = y1 at *
  generalize lvE l = x1 at *
  generalize lfR l n = y2 at *
  generalize lfE l n = x2 at *
  generalize dpR l n = y3 at *
  generalize ndE l n = x3 at *
  generalize unA l n = y4 at *
  generalize unB l n = y5 at *
  generalize spU l = y6 at *
  generalize spL l = y7 at *
  generalize spE l = x4 at *
  generalize ptR l n = xs at *
  have P1 := Lib.hid P1; have P2 := Lib.hid P2; have P3 := Lib.hid P3; have P4 := Lib.hid P4; have P5 := Lib.hid P5; have P6 := Lib.hid P6
  have P7 := Lib.hid P7; have P8 := Lib.hid P8; have P9 := Lib.hid P9; have P10 := Lib.hid P10; have P11 := Lib.hid P11; have P12 := Lib.hid P12
  have hn : ∀ z : Int, (z == z) = true := fun z => by simp
  have D1 := hn y1; have D2 := hn y2; have D3 := hn y3; have D4 := hn y4; have D5 := hn y5; have D6 := hn y6; have D7 := hn y7
  have E1 := hn x1; have E2 := hn x2; have E3 := hn x3; have E4 := hn x4
  clear hn
  go_enter Try.func6, Try.ntmps6
  go_wp2_with fail
  refine (P1.out _).mono ?_
  rintro e w' ⟨rfl, rfl⟩
  go_wp2_with fail
  refine (P2.out _).mono ?_
  rintro e w' ⟨rfl, rfl⟩
  go_wp2_with fail
  refine (P3.out _).mono ?_
  rintro e w' ⟨rfl, rfl⟩
  go_wp2_with fail
  refine (P4.out _).mono ?_
  rintro e w' ⟨rfl, rfl⟩
  go_wp2_with fail
  refine (P5.out _).mono ?_
  rintro e w1 ⟨rfl, hb1⟩
  go_wp2_with fail
  refine (P6.out _).mono ?_
  rintro e w' ⟨rfl, rfl⟩
  go_wp2_with fail
  refine (P7.out _).mono ?_
  rintro e w2 ⟨v1, rfl, ho1, hb2⟩
  go_wp2_with fail
  refine (P8.out _).mono ?_
  rintro e w3 ⟨v2, rfl, ho2, hb3⟩
  have ho1 := owns_below ho1 hb3
  go_wp2_with fail
  refine (P9.out _).mono ?_
  rintro e w4 ⟨rfl, hb4⟩
  have ho1 := owns_below ho1 hb4
  have ho2 := owns_below ho2 hb4
  have hz1 := hb1.size; have hz2 := hb2.size; have hz3 := hb3.size
  have hbel : Below w.heap.size w w4 := ((hb1.trans (hb2.mono (by omega))).trans (hb3.mono (by omega))).trans (hb4.mono (by omega))
  clear hb1 hb2 hb3 hb4
  obtain ⟨a1, k1, rfl, hi1, -⟩ := ints_of_owns ho1
  obtain ⟨a2, k2, rfl, hi2, -⟩ := ints_of_owns ho2
  have HI1 := Lib.hid hi1
  have HI2 := Lib.hid hi2
  clear hi1 hi2 ho1 ho2
  go_wp2_with fail
  refine (P10.out _).mono ?_
  rintro e w' ⟨rfl, rfl⟩
  go_wp2_with fail
  refine (P11.out _).mono ?_
  rintro e w' ⟨rfl, rfl⟩
  go_wp2_with fail
  refine (P12.out _).mono ?_
  rintro e w' ⟨rfl, rfl⟩
  go_wp2_with fail
  refine (SameInts_ok a1 a2 k1 k2 xs xs _ HI1.out HI2.out hlen).mono ?_
  rintro e w5 ⟨rfl, n5, rfl⟩
  go_wp2
  go_ret
  exact ⟨by simp, below_drewN hbel _⟩
end Go.Proofs.Ytbbacfhhkfgaoaa

/-
  EytzTells: places, ranks and neighbours are as is said.
  No condition.
-/
import Derived.Test.YtcbeldemkfbliaaEytzAlive
namespace Go.Proofs.Ytcbeldemkfbliaa
open Go.RowKit Go.Shelf
set_option linter.unusedVariables false

theorem EytzTells_walk (n k : Int) (w : World) :
    Calls Try.prog 6 #[.int .i64 n, .int .i64 k] w fun e w' => e = .returned (.bool true) ∧ Below w.heap.size w w' := by
  by_cases h : 3000 < n ∧ n ≤ 65536
  · obtain ⟨h1, h2⟩ := h
    go_enter Try.func6, Try.ntmps6
    go_wp2
    go_ret
    exact ⟨rfl, Below.refl _ _⟩
  · obtain ⟨y1, e1⟩ : ∃ y, eyPlace n k = y := ⟨_, rfl⟩
    obtain ⟨y2, e2⟩ : ∃ y, eErr n k = y := ⟨_, rfl⟩
    obtain ⟨y3, e3⟩ : ∃ y, eyRank n k = y := ⟨_, rfl⟩
    obtain ⟨y4, e4⟩ : ∃ y, eyNext n k = y := ⟨_, rfl⟩
    obtain ⟨y5, e5⟩ : ∃ y, eyLast n k = y := ⟨_, rfl⟩
    have H1 := Lib.hid (fun w => Place_any n k w)
    have H2 := Lib.hid (fun w => Place22_any n k w)
    have H3 := Lib.hid (fun w => Rank_any n k w)
    have H4 := Lib.hid (fun w => Rank22_any n k w)
    have H5 := Lib.hid (fun w => Next_any n k w)
    have H6 := Lib.hid (fun w => Next22_any n k w)
    have H7 := Lib.hid (fun w => Last_any n k w)
    have H8 := Lib.hid (fun w => Last22_any n k w)
    rw [e1, e2] at H1 H2
    rw [e3, e2] at H3 H4
    rw [e4] at H5 H6
    rw [e5] at H7 H8
    clear e1 e2 e3 e4 e5
    have hn : ∀ z : Int, (z == z) = true := fun z => by simp
    have D1 := hn y1; have D2 := hn y2; have D3 := hn y3; have D4 := hn y4.1; have D5 := hn y4.2; have D6 := hn y5.1; have D7 := hn y5.2
    clear hn
    have hall : ∀ w, Calls Try.prog 6 #[.int .i64 n, .int .i64 k] w fun e w' => e = .returned (.bool true) ∧ Below w.heap.size w w' := by
      intro w
      have hsplit : n ≤ 3000 ∨ (3000 < n ∧ 65536 < n) := by omega
      clear h
      rcases hsplit with h | ⟨h, h'⟩
      all_goals
        go_enter Try.func6, Try.ntmps6
        go_wp2_with fail
        refine (H1.out _).mono ?_
        rintro e w1 ⟨rfl, hb1⟩
        go_wp2_with fail
        refine (H2.out _).mono ?_
        rintro e w2 ⟨rfl, hb2⟩
        go_wp2_with fail
        refine (H3.out _).mono ?_
        rintro e w3 ⟨rfl, hb3⟩
        go_wp2_with fail
        refine (H4.out _).mono ?_
        rintro e w4 ⟨rfl, hb4⟩
        go_wp2_with fail
        refine (H5.out _).mono ?_
        rintro e w5 ⟨rfl, hb5⟩
        go_wp2_with fail
        refine (H6.out _).mono ?_
        rintro e w6 ⟨rfl, hb6⟩
        go_wp2_with fail
        refine (H7.out _).mono ?_
        rintro e w7 ⟨rfl, hb7⟩
        go_wp2_with fail
        refine (H8.out _).mono ?_
        rintro e w8 ⟨rfl, hb8⟩
        go_wp2
        go_ret
        have hz1 := hb1.size; have hz2 := hb2.size; have hz3 := hb3.size; have hz4 := hb4.size
        have hz5 := hb5.size; have hz6 := hb6.size; have hz7 := hb7.size
        refine ⟨by simp, ?_⟩
        exact ((((((hb1.trans (hb2.mono (by omega))).trans (hb3.mono (by omega))).trans (hb4.mono (by omega))).trans (hb5.mono (by omega))).trans (hb6.mono (by omega))).trans (hb7.mono (by omega))).trans (hb8.mono (by omega))
    exact hall w
end Go.Proofs.Ytcbeldemkfbliaa

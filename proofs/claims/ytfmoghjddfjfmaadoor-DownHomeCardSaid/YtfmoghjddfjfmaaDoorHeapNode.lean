/- Walks of package heap: nodes; bits.Len. -/
import Derived.Test.YtfmoghjddfjfmaaDoorHeap
import Derived.Test.YtfmoghjddfjfmaaDoorHeapPlain
import Derived.Test.YtfmoghjddfjfmaaDoorRange
import Derived.Lib.BitFns
namespace Go.Proofs.YtfmoghjddfjfmaaDoor
open Go.RowKit Go.Shelf
attribute [local go_sem] Oper.semAt_some
set_option linter.unusedVariables false
set_option linter.unusedSimpArgs false

theorem node_any (l n : Int) (w : World) :
    Calls Tryd.prog 47 #[.int .i64 l, .int .i64 n] w fun e w' => e = .returned (.int .i64 (ndE l n)) ∧ w = w' := by
  by_cases hl : 1 ≤ l ∧ l ≤ 14
  · obtain ⟨h1, h2⟩ := hl
    obtain ⟨hp1, hp2⟩ := pow_bdI l h2
    by_cases hn : 1 ≤ n
    · by_cases hm : n < 2 ^ l.toNat
      · have hv : ndE l n = 0 := by simp [ndE, h1, h2, hn, hm]
        rw [hv]
        clear hv
        go_enter Tryd.func47, Tryd.ntmps47
        go_wp2_with (go_at_call 46; refine (tree_ok _ h1 h2 _).mono ?_; rintro e w' ⟨rfl, rfl⟩)
        go_ret
        exact ⟨rfl, rfl⟩
      · have hv : ndE l n = 2 := by simp [ndE, hm]
        rw [hv]
        clear hv
        go_enter Tryd.func47, Tryd.ntmps47
        go_wp2_with (go_at_call 46; refine (tree_ok _ h1 h2 _).mono ?_; rintro e w' ⟨rfl, rfl⟩)
        go_ret
        exact ⟨rfl, rfl⟩
    · have hv : ndE l n = 2 := by simp [ndE, hn]
      rw [hv]
      clear hv
      go_enter Tryd.func47, Tryd.ntmps47
      go_wp2_with (go_at_call 46; refine (tree_ok _ h1 h2 _).mono ?_; rintro e w' ⟨rfl, rfl⟩)
      go_ret
      exact ⟨rfl, rfl⟩
  · have hv : ndE l n = 2 := by simp [ndE, hl]
    rw [hv]
    clear hv
    go_enter Tryd.func47, Tryd.ntmps47
    go_wp2_with (go_at_call 46; refine (tree_err _ (by omega) _).mono ?_; rintro e w' ⟨rfl, rfl⟩)
    go_ret
    exact ⟨rfl, rfl⟩

theorem bitLen_log2 (n : Nat) (h1 : 1 ≤ n) (h : n < 2 ^ 64) : Lib.bitLen n = n.log2 + 1 := by
  induction n using Nat.strongRecOn with
  | ind n ih =>
    rw [Lib.bitLen_half n (by omega) h]
    by_cases h2 : 2 ≤ n
    · rw [ih (n / 2) (by omega) (by omega) (by omega), log2_two h2]; omega
    · obtain rfl : n = 1 := by omega
      rfl

set_option maxRecDepth 100000 in
set_option maxHeartbeats 400000 in
theorem Len64_ok (x : Int) (h0 : 1 ≤ x) (h1 : x < 16384) (w : World) :
    Calls Tryd.prog 66 #[.int .u64 x] w fun e w' => e = .returned (.int .i64 ((x.toNat.log2 + 1 : Nat) : Int)) ∧ w = w' := by
  have HB := Lib.hid (bitLen_log2 x.toNat (by omega) (by omega))
  by_cases hx : x ≤ 255
  · have e0 : 0 ≤ x := by omega
    go_enter Tryd.func66, Tryd.ntmps66
    go_wp2
    go_ret
    refine ⟨congrArg Ending.returned (congrArg (Value.int IntKind.i64) ?_), rfl⟩
    rw [← HB.out, Lib.len8_of x (by omega) (by omega)]
    have l := Lib.bitLen_le8' x (by omega) (by omega)
    unfold wrap64
    omega
  · have e0 : 0 ≤ x / 256 := by omega
    have e1 : x / 256 ≤ 255 := by omega
    have e2 : 256 ≤ x := by omega
    clear hx
    go_enter Tryd.func66, Tryd.ntmps66
    go_wp2
    go_ret
    refine ⟨congrArg Ending.returned (congrArg (Value.int IntKind.i64) ?_), rfl⟩
    rw [← HB.out, Lib.len8_of (x / 256) (by omega) (by omega)]
    have e : (x / 256).toNat = x.toNat / 256 := by omega
    have l := Lib.bitLen_le8' (x / 256) (by omega) (by omega)
    have s := Lib.bitLen_shift8 x.toNat (by omega) (by omega)
    rw [e] at l ⊢
    unfold wrap64
    omega
theorem Len_ok (x : Int) (h0 : 1 ≤ x) (h1 : x < 16384) (w : World) :
    Calls Tryd.prog 48 #[.int .u64 x] w fun e w' => e = .returned (.int .i64 ((x.toNat.log2 + 1 : Nat) : Int)) ∧ w = w' := by
  go_enter Tryd.func48, Tryd.ntmps48
  go_wp2_with (go_at_call 66; refine (Len64_ok _ h0 h1 _).mono ?_; rintro e w' ⟨rfl, rfl⟩)
  go_ret
  exact ⟨rfl, rfl⟩
end Go.Proofs.YtfmoghjddfjfmaaDoor

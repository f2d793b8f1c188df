/- The walk of heap.Under. -/
import Derived.Test.YtelckhfmchnpnaaHeapNode
namespace Go.Proofs.Ytelckhfmchnpnaa
open Go.RowKit Go.Shelf
attribute [local go_sem] Oper.semAt_some
set_option linter.unusedVariables false
set_option linter.unusedSimpArgs false

/-- the shifts of Under, in the walk's own bounds -/
theorem under_bd {l n : Int} (h1 : 1 ≤ l) (h2 : l ≤ 14) (h3 : 1 ≤ n) (h4 : n < 2 ^ l.toNat) :
    (n.toNat.log2 : Nat) < l.toNat ∧ 0 ≤ l - ((n.toNat.log2 + 1 : Nat) : Int) ∧ (l - ((n.toNat.log2 + 1 : Nat) : Int)).toNat = l.toNat - 1 - n.toNat.log2 ∧
    1 ≤ (2 : Int) ^ (l.toNat - 1 - n.toNat.log2) ∧ (2 : Int) ^ (l.toNat - 1 - n.toNat.log2) ≤ 16384 ∧ 1 ≤ n * 2 ^ (l.toNat - 1 - n.toNat.log2) ∧ n * 2 ^ (l.toNat - 1 - n.toNat.log2) ≤ 268435456 := by
  have hlt : n.toNat.log2 < l.toNat := by
    refine log2_lt_of (by omega) ?_
    have e : ((2 ^ l.toNat : Nat) : Int) = 2 ^ l.toNat := by push_cast; rfl
    omega
  obtain ⟨q1, q2⟩ := pow_bd (l.toNat - 1 - n.toNat.log2) (by omega)
  obtain ⟨p1, p2⟩ := pow_bd l.toNat (by omega)
  refine ⟨hlt, by omega, by omega, q1, q2, ?_, ?_⟩
  · have := Int.mul_le_mul h3 q1 (by omega) (by omega)
    simpa using this
  · have := Int.mul_le_mul (show n ≤ 16384 by omega) q2 (by omega) (by omega)
    omega

set_option maxHeartbeats 400000 in
theorem Under_any (l n : Int) (w : World) :
    Calls Try.prog 31 #[.int .i64 l, .int .i64 n] w fun e w' => e = .returned (.tuple #[.int .i64 (unA l n), .int .i64 (unB l n), .int .i64 (ndE l n)]) ∧ ∃ k, w' = w.drewN k := by
  by_cases h : ndE l n = 0
  · obtain ⟨h1, h2, h3, h4⟩ := ndE_zero h
    obtain ⟨b1, b2, b3, b4, b5, b6, b7⟩ := under_bd h1 h2 h3 h4
    have hA : unA l n = n * 2 ^ (l - ((n.toNat.log2 + 1 : Nat) : Int)).toNat - 2 ^ (l.toNat - 1) := by rw [unA, h, fst, b3]; rfl
    have hB : unB l n = n * 2 ^ (l - ((n.toNat.log2 + 1 : Nat) : Int)).toNat - 2 ^ (l.toNat - 1) + 2 ^ (l - ((n.toNat.log2 + 1 : Nat) : Int)).toNat := by rw [unB, h, fst, cnt, b3]; rfl
    obtain ⟨p1, p2⟩ := pow_bd (l.toNat - 1) (by omega)
    obtain ⟨q1, q2⟩ := pow_bdI l h2
    have hn : n < 16384 := by omega
    have hw := fun w => node_any l n w
    have hb3 : 0 ≤ l - ((n.toNat.log2 + 1 : Nat) : Int) ∧ l - ((n.toNat.log2 + 1 : Nat) : Int) ≤ 13 := by omega
    rw [← b3] at b4 b5 b6 b7
    rw [h] at hw
    rw [hA, hB, h]
    have hL := fun w => Len_ok n h3 hn w
    generalize ((n.toNat.log2 + 1 : Nat) : Int) = g at *
    obtain ⟨hb3, hb4⟩ := hb3
    have HW := Lib.hid hw
    have HL := Lib.hid hL
    clear hw hL hA hB h b1 b2 b3 h4 q1 q2
    go_enter Try.func31, Try.ntmps31
    go_wp2_with fail
    refine (HW.out _).mono ?_
    rintro e w' ⟨rfl, rfl⟩
    go_wp2_with fail
    refine (HL.out _).mono ?_
    rintro e w' ⟨rfl, rfl⟩
    go_wp2
    go_quiet (fail)
    go_wp2
    go_quiet (fail)
    go_wp2
    go_ret3
    exact ⟨rfl, _, World.drewN_drewN _ _ _⟩
  · have h2 := ndE_no h
    rw [unA, unB, h2]
    have hw := fun w => node_any l n w
    rw [h2] at hw
    have HW := Lib.hid hw
    clear h h2 hw
    go_enter Try.func31, Try.ntmps31
    go_wp2_with fail
    refine (HW.out _).mono ?_
    rintro e w' ⟨rfl, rfl⟩
    go_wp2
    go_ret3
    exact ⟨rfl, 0, rfl⟩
end Go.Proofs.Ytelckhfmchnpnaa

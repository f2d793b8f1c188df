/- Walks of heap.Leaf, Depth, Under, Split, and of the reference's. -/
import Derived.Test.YtbbacfhhkfgaoaaHeapUp
namespace Go.Proofs.Ytbbacfhhkfgaoaa
open Go.RowKit Go.Shelf
attribute [local go_sem] Oper.semAt_some
set_option linter.unusedVariables false
set_option linter.unusedSimpArgs false

/-- a call that answers a known value and leaves all that was there alone -/
def Gives (w : World) (v : Value) (e : Ending) (w' : World) : Prop := e = .returned v ∧ Below w.heap.size w w'

theorem Size_any (l : Int) (w : World) :
    Calls Try.prog 12 #[.int .i64 l] w fun e w' => e = .returned (.tuple #[.int .i64 (szR l), .int .i64 (lvE l)]) ∧ w = w' := by
  by_cases h : 1 ≤ l ∧ l ≤ 14
  · rw [szR, lvE_ok h.1 h.2]; exact Size_ok l h.1 h.2 w
  · rw [szR, lvE_no (by omega)]; exact Size_err l (by omega) w
theorem Size16_any (l : Int) (w : World) :
    Calls Try.prog 15 #[.int .i64 l] w fun e w' => e = .returned (.tuple #[.int .i64 (szR l), .int .i64 (lvE l)]) ∧ w = w' := by
  by_cases h : 1 ≤ l ∧ l ≤ 14
  · rw [szR, lvE_ok h.1 h.2]; exact Size16_ok l h.1 h.2 w
  · rw [szR, lvE_no (by omega)]; exact Size16_err l (by omega) w

theorem toNat_pred (l : Int) : (l - 1).toNat = l.toNat - 1 := by omega
theorem Leaf_any (l k : Int) (w : World) :
    Calls Try.prog 10 #[.int .i64 l, .int .i64 k] w fun e w' => e = .returned (.tuple #[.int .i64 (lfR l k), .int .i64 (lfE l k)]) ∧ w = w' := by
  by_cases hl : 1 ≤ l ∧ l ≤ 14
  · obtain ⟨h1, h2⟩ := hl
    obtain ⟨hp1, hp2⟩ := pow_bd (l.toNat - 1) (by omega)
    by_cases hc : 0 ≤ k ∧ k < 2 ^ (l.toNat - 1)
    · obtain ⟨hk, hm⟩ := hc
      have hv : lfE l k = 0 := by simp only [lfE, h1, h2, hk, hm, and_self, if_true]
      have hr : lfR l k = 2 ^ (l.toNat - 1) + k := by rw [lfR, hv]; rfl
      rw [hv, hr]
      clear hv hr
      go_enter Try.func10, Try.ntmps10
      go_wp2_with (go_at_call 24; refine (tree_ok _ h1 h2 _).mono ?_; rintro e w' ⟨rfl, rfl⟩)
      go_ret2
      exact ⟨rfl, rfl⟩
    · have hv : lfE l k = 2 := by simp only [lfE, hc, and_false, if_false]
      have hr : lfR l k = 0 := by rw [lfR, hv]; rfl
      rw [hv, hr]
      clear hv hr
      have hsp : k < 0 ∨ (0 ≤ k ∧ 2 ^ (l.toNat - 1) ≤ k) := by omega
      clear hc
      rcases hsp with hk | ⟨hk, hm⟩
      all_goals
        go_enter Try.func10, Try.ntmps10
        go_wp2_with (go_at_call 24; refine (tree_ok _ h1 h2 _).mono ?_; rintro e w' ⟨rfl, rfl⟩)
        go_ret2
        exact ⟨rfl, rfl⟩
  · have hv : lfE l k = 2 := by simp only [lfE, hl, false_and, if_false]
    have hr : lfR l k = 0 := by rw [lfR, hv]; rfl
    rw [hv, hr]
    clear hv hr
    go_enter Try.func10, Try.ntmps10
    go_wp2_with (go_at_call 24; refine (tree_err _ (by omega) _).mono ?_; rintro e w' ⟨rfl, rfl⟩)
    go_ret2
    exact ⟨rfl, rfl⟩

theorem Split_any (l : Int) (w : World) :
    Calls Try.prog 11 #[.int .i64 l] w fun e w' => e = .returned (.tuple #[.int .i64 (spU l), .int .i64 (spL l), .int .i64 (spE l)]) ∧ w = w' := by
  by_cases hl : 1 ≤ l ∧ l ≤ 14
  · by_cases h1 : l = 1
    · subst h1
      have hv : spE 1 = 6 := by simp [spE]
      rw [spU, spL, hv]
      clear hv hl
      go_enter Try.func11, Try.ntmps11
      go_wp2_with (go_at_call 24; refine (tree_ok _ (by omega) (by omega) _).mono ?_; rintro e w' ⟨rfl, rfl⟩)
      go_ret3
      exact ⟨rfl, rfl⟩
    · have hv : spE l = 0 := by simp [spE, hl, h1]
      rw [spU, spL, hv]
      exact Split_ok l (by omega) (by omega) w
  · have hv : spE l = 2 := by simp [spE, hl]
    rw [spU, spL, hv]
    clear hv
    go_enter Try.func11, Try.ntmps11
    go_wp2_with (go_at_call 24; refine (tree_err _ (by omega) _).mono ?_; rintro e w' ⟨rfl, rfl⟩)
    go_ret3
    exact ⟨rfl, rfl⟩

/-- the shifts of Under, in the walk's own bounds -/
theorem under_bd {l n : Int} (h1 : 1 ≤ l) (h2 : l ≤ 14) (h3 : 1 ≤ n) (h4 : n < 2 ^ l.toNat) :
    (n.toNat.log2 : Nat) < l.toNat ∧ 0 ≤ l - ((n.toNat.log2 + 1 : Nat) : Int) ∧ (l - ((n.toNat.log2 + 1 : Nat) : Int)).toNat = l.toNat - 1 - n.toNat.log2 ∧
    1 ≤ (2 : Int) ^ (l.toNat - 1 - n.toNat.log2) ∧ (2 : Int) ^ (l.toNat - 1 - n.toNat.log2) ≤ 16384 ∧ 1 ≤ n * 2 ^ (l.toNat - 1 - n.toNat.log2) ∧ n * 2 ^ (l.toNat - 1 - n.toNat.log2) ≤ 268435456 := by
  have hlt : n.toNat.log2 < l.toNat := by
    refine log2_lt_of (by omega) ?_
    have e : ((2 ^ l.toNat : Nat) : Int) = 2 ^ l.toNat := by push_cast; rfl
    omega
  obtain ⟨q1, q2⟩ := pow_bd (l.toNat - 1 - n.toNat.log2) (by omega)
  obtain ⟨p1, p2⟩ := pow_bd l.toNat (by omega)
  refine ⟨hlt, by omega, by omega, q1, q2, ?_, ?_⟩
  · have := Int.mul_le_mul h3 q1 (by omega) (by omega)
    simpa using this
  · have := Int.mul_le_mul (show n ≤ 16384 by omega) q2 (by omega) (by omega)
    omega

set_option maxHeartbeats 400000 in
theorem Under_any (l n : Int) (w : World) :
    Calls Try.prog 9 #[.int .i64 l, .int .i64 n] w fun e w' => e = .returned (.tuple #[.int .i64 (unA l n), .int .i64 (unB l n), .int .i64 (ndE l n)]) ∧ ∃ k, w' = w.drewN k := by
  by_cases h : ndE l n = 0
  · obtain ⟨h1, h2, h3, h4⟩ := ndE_zero h
    obtain ⟨b1, b2, b3, b4, b5, b6, b7⟩ := under_bd h1 h2 h3 h4
    have hA : unA l n = n * 2 ^ (l - ((n.toNat.log2 + 1 : Nat) : Int)).toNat - 2 ^ (l.toNat - 1) := by rw [unA, h, fst, b3]; rfl
    have hB : unB l n = n * 2 ^ (l - ((n.toNat.log2 + 1 : Nat) : Int)).toNat - 2 ^ (l.toNat - 1) + 2 ^ (l - ((n.toNat.log2 + 1 : Nat) : Int)).toNat := by rw [unB, h, fst, cnt, b3]; rfl
    obtain ⟨p1, p2⟩ := pow_bd (l.toNat - 1) (by omega)
    obtain ⟨q1, q2⟩ := pow_bdI l h2
    have hn : n < 16384 := by omega
    have hw := fun w => node_any l n w
    have hb3 : 0 ≤ l - ((n.toNat.log2 + 1 : Nat) : Int) ∧ l - ((n.toNat.log2 + 1 : Nat) : Int) ≤ 13 := by omega
    rw [← b3] at b4 b5 b6 b7
    rw [h] at hw
    rw [hA, hB, h]
    have hL := fun w => Len_ok n h3 hn w
    generalize ((n.toNat.log2 + 1 : Nat) : Int) = g at *
    obtain ⟨hb3, hb4⟩ := hb3
    have HW := Lib.hid hw
    have HL := Lib.hid hL
    clear hw hL hA hB h b1 b2 b3 h4 q1 q2
    go_enter Try.func9, Try.ntmps9
    go_wp2_with fail
    refine (HW.out _).mono ?_
    rintro e w' ⟨rfl, rfl⟩
    go_wp2_with fail
    refine (HL.out _).mono ?_
    rintro e w' ⟨rfl, rfl⟩
    go_wp2
    go_quiet (fail)
    go_wp2
    go_quiet (fail)
    go_wp2
    go_ret3
    exact ⟨rfl, _, World.drewN_drewN _ _ _⟩
  · have h2 := ndE_no h
    rw [unA, unB, h2]
    have hw := fun w => node_any l n w
    rw [h2] at hw
    have HW := Lib.hid hw
    clear h h2 hw
    go_enter Try.func9, Try.ntmps9
    go_wp2_with fail
    refine (HW.out _).mono ?_
    rintro e w' ⟨rfl, rfl⟩
    go_wp2
    go_ret3
    exact ⟨rfl, 0, rfl⟩
end Go.Proofs.Ytbbacfhhkfgaoaa

/- Walks of veb.Node, and of the reference's Place and Node. -/
import Derived.Test.YtammdgffdgegfaaVebPlace
import Derived.Test.YtammdgffdgegfaaVebTab
import Derived.Test.YtammdgffdgegfaaHeapRef
namespace Go.Proofs.Ytammdgffdgegfaa
open Go.RowKit Go.Shelf
set_option linter.unusedVariables false
set_option linter.unusedSimpArgs false

/-- has a tree so many levels, and the layout such a place; what stands there -/
def vnE (l a : Int) : Int := if (1 ≤ l ∧ l ≤ 14) ∧ 0 ≤ a ∧ a < 2 ^ l.toNat - 1 then 0 else 2
def vnR (l a : Int) : Int := if vnE l a = 0 then ((lay l.toNat 1).getD a.toNat 0 : Nat) else 0
theorem vnE_zero {l n : Int} (h : vnE l n = 0) : 1 ≤ l ∧ l ≤ 14 ∧ 0 ≤ n ∧ n < 2 ^ l.toNat - 1 := by
  unfold vnE at h; split at h
  · rename_i k; exact ⟨k.1.1, k.1.2, k.2⟩
  · omega
theorem vnE_no {l n : Int} (h : ¬ vnE l n = 0) : vnE l n = 2 := by
  unfold vnE at *; split at h
  · exact absurd rfl h
  · rename_i k; rw [if_neg k]
theorem pow_nat (L : Nat) : ((2 ^ L - 1 : Nat) : Int) = 2 ^ L - 1 := by
  have := Nat.two_pow_pos L
  rw [Int.natCast_sub this]; push_cast; rfl

theorem Node_any (l a : Int) (w : World) :
    Calls Try.prog 15 #[.int .i64 l, .int .i64 a] w (Gives w (.tuple #[.int .i64 (vnR l a), .int .i64 (vnE l a)])) := by
  by_cases hl : 1 ≤ l ∧ l ≤ 14
  · obtain ⟨h1, h2⟩ := hl
    obtain ⟨hp1, hp2⟩ := pow_bdI l h2
    by_cases h : vnE l a = 0
    · obtain ⟨-, -, h3, h4⟩ := vnE_zero h
      obtain ⟨A, rfl⟩ := Int.eq_ofNat_of_zero_le h3
      obtain ⟨L, rfl⟩ := Int.eq_ofNat_of_zero_le (show 0 ≤ l by omega)
      have hr : vnR L A = ((lay L 1).getD A 0 : Nat) := by rw [vnR, h]; rfl
      have hlen : (ints (lay L 1)).length = 2 ^ L - 1 := by rw [ints_length, lay_len 1 (by omega)]
      have hAl : A < (ints (lay L 1)).length := by
        rw [hlen]
        have := pow_nat L
        simp only [Int.toNat_natCast] at h4
        omega
      have hg := getD_ints (lay L 1) A
      rw [hr, h, ← hg]
      have HLA := Lib.hid (laid_ok L (by omega) (by omega))
      generalize ints (lay L 1) = xs at *
      have HX := Lib.hid hlen
      simp only [Int.toNat_natCast] at h4 hp1 hp2
      have hlb : xs.length ≤ 16384 := by
        have := pow_nat L
        omega
      clear h hr hlen hg
      go_enter Try.func15, Try.ntmps15
      go_wp2_with fail
      refine (Size_ok _ h1 h2 _).mono ?_
      rintro e w' ⟨rfl, rfl⟩
      simp only [Int.toNat_natCast]
      go_wp2_with fail
      refine (HLA.out _).mono ?_
      rintro e w1 ⟨v1, rfl, ho1, hb1⟩
      obtain ⟨a1, c1, rfl, hi1, -⟩ := ints_of_owns ho1
      obtain ⟨b, o, x, rfl, hx, hc, _⟩ := hi1.get hAl
      have hAi : (A : Int) < (xs.length : Int) := by omega
      clear ho1 hi1
      go_wp2
      go_ret2
      exact ⟨by rw [hx.out]; rfl, hb1⟩
    · have h2' := vnE_no h
      have hr : vnR l a = 0 := by rw [vnR, h2']; rfl
      rw [hr, h2']
      have hsp : a < 0 ∨ (0 ≤ a ∧ 2 ^ l.toNat - 1 ≤ a) := by
        by_cases h3 : 0 ≤ a
        · right
          refine ⟨h3, ?_⟩
          by_cases h4 : a < 2 ^ l.toNat - 1
          · exact absurd (by simp [vnE, h1, h2, h3, h4]) h
          · omega
        · left; omega
      clear h h2' hr
      rcases hsp with h3 | ⟨h3, h4⟩
      all_goals
        go_enter Try.func15, Try.ntmps15
        go_wp2_with (go_at_call 14; refine (Size_ok _ h1 h2 _).mono ?_; rintro e w' ⟨rfl, rfl⟩)
        go_ret2
        exact ⟨rfl, Below.refl _ _⟩
  · have h2' : vnE l a = 2 := by simp [vnE, hl]
    have hr : vnR l a = 0 := by rw [vnR, h2']; rfl
    rw [hr, h2']
    clear h2' hr
    go_enter Try.func15, Try.ntmps15
    go_wp2_with (go_at_call 14; refine (Size_err _ (by omega) _).mono ?_; rintro e w' ⟨rfl, rfl⟩)
    go_ret2
    exact ⟨rfl, Below.refl _ _⟩

theorem Node17_any (l a : Int) (w : World) :
    Calls Try.prog 20 #[.int .i64 l, .int .i64 a] w (Gives w (.tuple #[.int .i64 (vnR l a), .int .i64 (vnE l a)])) := by
  by_cases hl : 1 ≤ l ∧ l ≤ 14
  · obtain ⟨h1, h2⟩ := hl
    obtain ⟨hp1, hp2⟩ := pow_bdI l h2
    by_cases h : vnE l a = 0
    · obtain ⟨-, -, h3, h4⟩ := vnE_zero h
      obtain ⟨A, rfl⟩ := Int.eq_ofNat_of_zero_le h3
      obtain ⟨L, rfl⟩ := Int.eq_ofNat_of_zero_le (show 0 ≤ l by omega)
      have hr : vnR L A = ((lay L 1).getD A 0 : Nat) := by rw [vnR, h]; rfl
      have hlen : (ints (lay L 1)).length = 2 ^ L - 1 := by rw [ints_length, lay_len 1 (by omega)]
      have hAl : A < (ints (lay L 1)).length := by
        rw [hlen]
        have := pow_nat L
        simp only [Int.toNat_natCast] at h4
        omega
      have hg := getD_ints (lay L 1) A
      rw [hr, h, ← hg]
      have HLA := Lib.hid (fun w => Laid17_ok L _ rfl (by omega) (by omega) w)
      generalize ints (lay L 1) = xs at *
      have HX := Lib.hid hlen
      simp only [Int.toNat_natCast] at h4 hp1 hp2
      have hlb : xs.length ≤ 16384 := by
        have := pow_nat L
        omega
      clear h hr hlen hg
      go_enter Try.func20, Try.ntmps20
      go_wp2_with fail
      refine (Size16_ok _ h1 h2 _).mono ?_
      rintro e w' ⟨rfl, rfl⟩
      simp only [Int.toNat_natCast]
      go_wp2_with fail
      refine (HLA.out _).mono ?_
      rintro e w1 ⟨v1, rfl, ho1, hb1⟩
      obtain ⟨a1, c1, rfl, hi1, -⟩ := ints_of_owns ho1
      obtain ⟨b, o, x, rfl, hx, hc, _⟩ := hi1.get hAl
      have hAi : (A : Int) < (xs.length : Int) := by omega
      clear ho1 hi1
      go_wp2
      go_ret2
      exact ⟨by rw [hx.out]; rfl, hb1⟩
    · have h2' := vnE_no h
      have hr : vnR l a = 0 := by rw [vnR, h2']; rfl
      rw [hr, h2']
      have hsp : a < 0 ∨ (0 ≤ a ∧ 2 ^ l.toNat - 1 ≤ a) := by
        by_cases h3 : 0 ≤ a
        · right
          refine ⟨h3, ?_⟩
          by_cases h4 : a < 2 ^ l.toNat - 1
          · exact absurd (by simp [vnE, h1, h2, h3, h4]) h
          · omega
        · left; omega
      clear h h2' hr
      rcases hsp with h3 | ⟨h3, h4⟩
      all_goals
        go_enter Try.func20, Try.ntmps20
        go_wp2_with (go_at_call 25; refine (Size16_ok _ h1 h2 _).mono ?_; rintro e w' ⟨rfl, rfl⟩)
        go_ret2
        exact ⟨rfl, Below.refl _ _⟩
  · have h2' : vnE l a = 2 := by simp [vnE, hl]
    have hr : vnR l a = 0 := by rw [vnR, h2']; rfl
    rw [hr, h2']
    clear h2' hr
    go_enter Try.func20, Try.ntmps20
    go_wp2_with (go_at_call 25; refine (Size16_err _ (by omega) _).mono ?_; rintro e w' ⟨rfl, rfl⟩)
    go_ret2
    exact ⟨rfl, Below.refl _ _⟩

theorem Place17_any (l n : Int) (w : World) :
    Calls Try.prog 19 #[.int .i64 l, .int .i64 n] w (Gives w (.tuple #[.int .i64 (vpR l n), .int .i64 (ndE l n)])) := by
  have HD := Lib.hid (fun w => Depth16_any l n w)
  by_cases h : ndE l n = 0
  · obtain ⟨h1, h2, h3, h4⟩ := ndE_zero h
    obtain ⟨hp1, hp2⟩ := pow_bdI l h2
    obtain ⟨N, rfl⟩ := Int.eq_ofNat_of_zero_le (show 0 ≤ n by omega)
    obtain ⟨L, rfl⟩ := Int.eq_ofNat_of_zero_le (show 0 ≤ l by omega)
    simp only [Int.toNat_natCast] at h4 hp1 hp2
    have hN : N < 2 ^ L := by
      have e : ((2 ^ L : Nat) : Int) = 2 ^ L := by push_cast; rfl
      omega
    have hr : vpR L N = (vpos L N : Nat) := by rw [vpR, h]; rfl
    have hg := plc_get (L := L) (n := N) (by omega) (by omega) hN
    have hlen : (plc L).length = 2 ^ L - 1 := by rw [plc, fillTo_length]
    have hNl : N - 1 < (plc L).length := by omega
    rw [hr, h, ← hg]
    rw [h] at HD
    have HP := Lib.hid (fun w => Places17_ok L _ rfl (by omega) (by omega) w)
    have hlb : (plc L).length ≤ 16384 := by
      have := pow_nat L
      omega
    generalize plc L = xs at *
    have hN0 : (0 : Int) ≤ (N : Int) - 1 := by omega
    have hNi : (N : Int) - 1 < (xs.length : Int) := by omega
    have hNt : ((N : Int) - 1).toNat = N - 1 := by omega
    clear h hr hlen hg h4 hp1 hp2 hN
    go_enter Try.func19, Try.ntmps19
    go_wp2_with fail
    refine (HD.out _).mono ?_
    rintro e w' ⟨rfl, rfl⟩
    go_wp2_with fail
    refine (HP.out _).mono ?_
    rintro e w1 ⟨v1, rfl, ho1, hb1⟩
    obtain ⟨a1, c1, rfl, hi1, -⟩ := ints_of_owns ho1
    obtain ⟨b, o, x, rfl, hx, hc, _⟩ := hi1.get hNl
    clear ho1 hi1
    go_wp2
    go_ret2
    exact ⟨by rw [hx.out]; rfl, hb1⟩
  · have h2 := ndE_no h
    have hr : vpR l n = 0 := by rw [vpR, h2]; rfl
    have hd : dpR l n = 0 := by rw [dpR, h2]; rfl
    rw [hr, h2]
    rw [h2, hd] at HD
    clear h h2 hr hd
    go_enter Try.func19, Try.ntmps19
    go_wp2_with fail
    refine (HD.out _).mono ?_
    rintro e w' ⟨rfl, rfl⟩
    go_wp2
    go_ret2
    exact ⟨rfl, Below.refl _ _⟩
end Go.Proofs.Ytammdgffdgegfaa

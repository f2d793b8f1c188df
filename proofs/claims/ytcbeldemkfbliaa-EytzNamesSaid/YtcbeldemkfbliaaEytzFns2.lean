/- Walks of eytz.Next, Last, and of the reference's. -/
import Derived.Test.YtcbeldemkfbliaaEytzFns
namespace Go.Proofs.Ytcbeldemkfbliaa
open Go.RowKit Go.Shelf
attribute [local go_sem] Oper.semAt_some
set_option linter.unusedVariables false

theorem ret_two {x y x' y' : Int} (h1 : x = x') (h2 : y = y') : Ending.returned (.tuple #[.int .i64 x, .int .i64 y]) = .returned (.tuple #[.int .i64 x', .int .i64 y']) := by rw [h1, h2]
theorem Next_any (n a : Int) (w : World) :
    Calls Try.prog 15 #[.int .i64 n, .int .i64 a] w (Gives w (.tuple #[.int .i64 (eyNext n a).1, .int .i64 (eyNext n a).2])) := by
  by_cases h : eErr n a = 0
  · obtain ⟨h1, h2, h3, h4⟩ := eErr_zero h
    obtain ⟨N, rfl⟩ := Int.eq_ofNat_of_zero_le h1
    obtain ⟨A, rfl⟩ := Int.eq_ofNat_of_zero_le h3
    have hfin : eyNext N A = opt2 (nxt N A) := by simp [eyNext, h]
    have hw := within_any N A w
    rw [h] at hw
    rw [hfin]
    have HW := Lib.hid hw
    clear hw h hfin
    have hnx := next_ok N A _ _ rfl rfl (by omega) (by omega) w
    cases hx : nxt N A with
    | none =>
      rw [hx] at hnx
      have HN := Lib.hid hnx
      have HX := Lib.hid hx
      clear hnx hx
      go_enter Try.func15, Try.ntmps15
      go_wp2_with (go_at_call 24; refine HW.out.mono ?_; rintro e w' ⟨rfl, rfl⟩)
      refine HN.out.mono ?_
      rintro e w' ⟨rfl, rfl⟩
      simp only [plI]
      go_wp2
      go_ret2
      exact ⟨rfl, Below.refl _ _⟩
    | some p =>
      rw [hx] at hnx
      have HN := Lib.hid hnx
      have HX := Lib.hid hx
      clear hnx hx
      have hne : ((p : Int) == -1) = false := by simp <;> omega
      go_enter Try.func15, Try.ntmps15
      go_wp2_with (go_at_call 24; refine HW.out.mono ?_; rintro e w' ⟨rfl, rfl⟩)
      refine HN.out.mono ?_
      rintro e w' ⟨rfl, rfl⟩
      simp only [plI]
      go_wp2
      go_ret2
      exact ⟨rfl, Below.refl _ _⟩
  · have hfin : eyNext n a = (0, eErr n a) := by simp [eyNext, h]
    have hne : (eErr n a != 0) = true := by simpa using h
    rw [hfin]
    clear h hfin
    go_enter Try.func15, Try.ntmps15
    go_wp2_with (go_at_call 24; refine (within_any _ _ _).mono ?_; rintro e w' ⟨rfl, rfl⟩)
    go_ret2
    exact ⟨rfl, Below.refl _ _⟩

theorem Last_any (n a : Int) (w : World) :
    Calls Try.prog 14 #[.int .i64 n, .int .i64 a] w (Gives w (.tuple #[.int .i64 (eyLast n a).1, .int .i64 (eyLast n a).2])) := by
  by_cases h : eErr n a = 0
  · obtain ⟨h1, h2, h3, h4⟩ := eErr_zero h
    obtain ⟨N, rfl⟩ := Int.eq_ofNat_of_zero_le h1
    obtain ⟨A, rfl⟩ := Int.eq_ofNat_of_zero_le h3
    have hfin : eyLast N A = opt2 (prv N A) := by simp [eyLast, h]
    have hw := within_any N A w
    rw [h] at hw
    rw [hfin]
    have HW := Lib.hid hw
    clear hw h hfin
    by_cases hl : 2 * A + 1 < N
    · have hp : prv N A = some (rm N (2 * A + 1)) := by simp [prv, hl]
      rw [hp]
      simp only [opt2]
      clear hp
      go_enter Try.func14, Try.ntmps14
      go_wp2_with (go_at_call 24; refine HW.out.mono ?_; rintro e w' ⟨rfl, rfl⟩)
      go_loopg [7] (N - (2 * A + 1)) (fun g i wr => ∃ b : Nat, g = N - b ∧ b < N ∧ i = .int .i64 b ∧ wr = w ∧ rm N b = rm N (2 * A + 1))
      case atStart => exact ⟨2 * A + 1, rfl, hl, by go_num, rfl, rfl⟩
      case round =>
        obtain ⟨b, hb, hbn, rfl, rfl, hlm⟩ := hrel
        have HL := Lib.hid hlm
        have HG := Lib.hid hb
        clear hlm hb
        by_cases h : 2 * b + 2 < N
        · go_wp2
          go_roundg (N - (2 * b + 2))
          case measure => have := HG.out; omega
          case rel => exact ⟨2 * b + 2, rfl, by omega, by go_num, rfl, by rw [← rm_in h]; exact HL.out⟩
        · go_wp2
          go_ret2
          exact ⟨by rw [← HL.out, rm_out h]; rfl, Below.refl _ _⟩
    · have hp : prv N A = upsE A := by simp [prv, hl]
      rw [hp]
      have HP := Lib.hid hp
      clear hp
      go_enter Try.func14, Try.ntmps14
      go_wp2_with (go_at_call 24; refine HW.out.mono ?_; rintro e w' ⟨rfl, rfl⟩)
      go_loopg [1] A (fun g i wr => ∃ b : Nat, b = g ∧ b < N ∧ i = .int .i64 b ∧ wr = w ∧ upsE b = upsE A)
      case atStart => exact ⟨A, rfl, by omega, rfl, rfl, rfl⟩
      case round =>
        obtain ⟨b, rfl, hbn, rfl, rfl, hup⟩ := hrel
        have HU := Lib.hid hup
        clear hup
        by_cases hb0 : b = 0
        · subst hb0
          go_wp2
          go_ret2
          exact ⟨by rw [← HU.out, upsE_zero]; rfl, Below.refl _ _⟩
        · have e0 : (0 : Int) < b := by omega
          by_cases hb1 : b % 2 = 0
          · have e1 : ((b : Int) % 2 == 0) = true := by simp; omega
            go_wp2
            go_ret2
            exact ⟨ret_two (by rw [← HU.out, upsE_even hb1 hb0]; simp only [opt2]; omega) (by rw [← HU.out, upsE_even hb1 hb0]; rfl), Below.refl _ _⟩
          · have e1 : ((b : Int) % 2 == 0) = false := by simp; omega
            go_wp2
            go_roundg ((b - 1) / 2)
            case measure => omega
            case rel => exact ⟨(b - 1) / 2, rfl, by omega, by go_num, rfl, by rw [← upsE_odd (by omega)]; exact HU.out⟩
  · have hfin : eyLast n a = (0, eErr n a) := by simp [eyLast, h]
    have hne : (eErr n a != 0) = true := by simpa using h
    rw [hfin]
    clear h hfin
    go_enter Try.func14, Try.ntmps14
    go_wp2_with (go_at_call 24; refine (within_any _ _ _).mono ?_; rintro e w' ⟨rfl, rfl⟩)
    go_ret2
    exact ⟨rfl, Below.refl _ _⟩

theorem asked22_any (n a : Int) (w : World) :
    Calls Try.prog 26 #[.int .i64 n, .int .i64 a] w fun e w' => e = .returned (.int .i64 (eErr n a)) ∧ w = w' := by
  by_cases h1 : n < 0
  · have : eErr n a = 2 := by simp [eErr, h1]
    rw [this]; exact asked22_arg n a (Or.inl h1) w
  · by_cases h2 : 65536 < n
    · have : eErr n a = 4 := by simp [eErr, h1, h2]
      rw [this]; exact asked22_many n a h2 w
    · by_cases h3 : a < 0 ∨ n ≤ a
      · have : eErr n a = 2 := by simp [eErr, h1, h2, h3]
        rw [this]; exact asked22_arg n a (Or.inr ⟨by omega, h3⟩) w
      · have : eErr n a = 0 := by simp [eErr, h1, h2, h3]
        rw [this]; exact asked22_ok n a (by omega) (by omega) (by omega) (by omega) w

theorem Place22_any (n a : Int) (w : World) :
    Calls Try.prog 17 #[.int .i64 n, .int .i64 a] w (Gives w (.tuple #[.int .i64 (eyPlace n a), .int .i64 (eErr n a)])) := by
  by_cases h : eErr n a = 0
  · obtain ⟨h1, h2, h3, h4⟩ := eErr_zero h
    obtain ⟨N, rfl⟩ := Int.eq_ofNat_of_zero_le h1
    obtain ⟨A, rfl⟩ := Int.eq_ofNat_of_zero_le h3
    have hfin : eyPlace N A = ((ord N 0).getD A 0 : Nat) := by simp [eyPlace, h]
    have hw := asked22_any N A w
    rw [h] at hw
    rw [h, hfin]
    have HW := Lib.hid hw
    clear hw h hfin
    go_enter Try.func17, Try.ntmps17
    go_wp2_with (go_at_call 26; refine HW.out.mono ?_; rintro e w' ⟨rfl, rfl⟩)
    refine (Places22_ok N N 0 _ _ _ rfl rfl (by omega) (by omega) (by omega)).mono ?_
    rintro e w1 ⟨v1, rfl, ho1, hb1⟩
    obtain ⟨a1, c1, rfl, hi1, _⟩ := ints_of_owns ho1
    obtain ⟨b, o, x, rfl, hx, hc, _⟩ := hi1.get (k := A) (by rw [ints_length, ord_length]; omega)
    have hlen : (A : Int) < ((ints (ord N 0)).length : Int) := by rw [ints_length, ord_length]; exact h4
    rw [getD_ints] at hx
    have HI := Lib.hid hi1
    clear hi1 ho1
    go_wp2
    go_ret2
    exact ⟨by rw [hx.out]; rfl, hb1⟩
  · have hfin : eyPlace n a = 0 := by simp [eyPlace, h]
    have hne : (eErr n a != 0) = true := by simpa using h
    rw [hfin]
    clear h hfin
    go_enter Try.func17, Try.ntmps17
    go_wp2_with (go_at_call 26; refine (asked22_any _ _ _).mono ?_; rintro e w' ⟨rfl, rfl⟩)
    go_ret2
    exact ⟨rfl, Below.refl _ _⟩

theorem Rank22_any (n a : Int) (w : World) :
    Calls Try.prog 18 #[.int .i64 n, .int .i64 a] w (Gives w (.tuple #[.int .i64 (eyRank n a), .int .i64 (eErr n a)])) := by
  by_cases h : eErr n a = 0
  · obtain ⟨h1, h2, h3, h4⟩ := eErr_zero h
    obtain ⟨N, rfl⟩ := Int.eq_ofNat_of_zero_le h1
    obtain ⟨A, rfl⟩ := Int.eq_ofNat_of_zero_le h3
    have hfin : eyRank N A = (rk N A : Nat) := by simp [eyRank, h]
    have hw := asked22_any N A w
    rw [h] at hw
    rw [h, hfin]
    have HW := Lib.hid hw
    clear hw h hfin
    go_enter Try.func18, Try.ntmps18
    go_wp2_with (go_at_call 26; refine HW.out.mono ?_; rintro e w' ⟨rfl, rfl⟩)
    refine (Ranks22_ok N _ rfl (by omega) _).mono ?_
    rintro e w1 ⟨v1, rfl, ho1, hb1⟩
    obtain ⟨a1, c1, rfl, hi1, _⟩ := ints_of_owns ho1
    obtain ⟨b, o, x, rfl, hx, hc, _⟩ := hi1.get (k := A) (by rw [rnk_length]; omega)
    have hlen : (A : Int) < ((rnk N).length : Int) := by rw [rnk_length]; exact h4
    rw [rnk_get (by omega)] at hx
    have HI := Lib.hid hi1
    clear hi1 ho1
    go_wp2
    go_ret2
    exact ⟨by rw [hx.out]; rfl, hb1⟩
  · have hfin : eyRank n a = 0 := by simp [eyRank, h]
    have hne : (eErr n a != 0) = true := by simpa using h
    rw [hfin]
    clear h hfin
    go_enter Try.func18, Try.ntmps18
    go_wp2_with (go_at_call 26; refine (asked22_any _ _ _).mono ?_; rintro e w' ⟨rfl, rfl⟩)
    go_ret2
    exact ⟨rfl, Below.refl _ _⟩

/-- what stands a step beside -/
def besI (n a d : Int) : Int × Int :=
  if eErr n a = 0 then (if eyRank n a + d < 0 ∨ n ≤ eyRank n a + d then (0, 6) else (eyPlace n (eyRank n a + d), 0)) else (0, eErr n a)
theorem eErr_in {n a k : Int} (h : eErr n a = 0) (h1 : 0 ≤ k) (h2 : k < n) : eErr n k = 0 := by
  have := eErr_zero h
  simp [eErr, show ¬ n < 0 by omega, show ¬ 65536 < n by omega, show ¬ (k < 0 ∨ n ≤ k) by omega]

theorem beside_any (n a d : Int) (hd : d = 1 ∨ d = -1) (w : World) :
    Calls Try.prog 28 #[.int .i64 n, .int .i64 a, .int .i64 d] w (Gives w (.tuple #[.int .i64 (besI n a d).1, .int .i64 (besI n a d).2])) := by
  by_cases h : eErr n a = 0
  · obtain ⟨h1, h2, h3, h4⟩ := eErr_zero h
    have hr := Rank22_any n a w
    rw [h] at hr
    have hrb : 0 ≤ eyRank n a ∧ eyRank n a < 65536 := by
      have := rk_lt (n := n.toNat) (a := a.toNat) (by omega)
      simp only [eyRank, h, if_pos]
      omega
    have hbes : besI n a d = if eyRank n a + d < 0 ∨ n ≤ eyRank n a + d then (0, 6) else (eyPlace n (eyRank n a + d), 0) := by simp [besI, h]
    have hall : ¬ (eyRank n a + d < 0 ∨ n ≤ eyRank n a + d) → eErr n (eyRank n a + d) = 0 := fun hh => eErr_in h (by omega) (by omega)
    have HA := Lib.hid hall
    rw [hbes]
    clear hall hbes h
    obtain ⟨r, hre⟩ : ∃ r, eyRank n a = r := ⟨_, rfl⟩
    rw [hre] at hr hrb HA ⊢
    have HR := Lib.hid hr
    have HE := Lib.hid hre
    clear hr hre
    by_cases h5 : r + d < 0
    · rw [if_pos (Or.inl h5)]
      go_enter Try.func28, Try.ntmps28
      go_wp2_with (go_at_call 18; refine HR.out.mono ?_; rintro e w' ⟨rfl, hb⟩)
      go_ret2
      exact ⟨rfl, hb⟩
    · by_cases h6 : n ≤ r + d
      · rw [if_pos (Or.inr h6)]
        go_enter Try.func28, Try.ntmps28
        go_wp2_with (go_at_call 18; refine HR.out.mono ?_; rintro e w' ⟨rfl, hb⟩)
        go_ret2
        exact ⟨rfl, hb⟩
      · rw [if_neg (by omega)]
        have h7 := HA.out (by omega)
        obtain ⟨N, rfl⟩ := Int.eq_ofNat_of_zero_le h1
        obtain ⟨K, hK⟩ := Int.eq_ofNat_of_zero_le (show 0 ≤ r + d by omega)
        have hfin : eyPlace N (r + d) = ((ord N 0).getD K 0 : Nat) := by simp only [eyPlace, h7]; rw [hK]; simp
        rw [hfin]
        have HK := Lib.hid hK
        have hkn : K < N := by omega
        clear hfin h7 hK
        go_enter Try.func28, Try.ntmps28
        go_wp2_with (go_at_call 18; refine HR.out.mono ?_; rintro e w' ⟨rfl, hb⟩)
        refine (Places22_ok N N 0 _ _ _ rfl rfl (by omega) (by omega) (by omega)).mono ?_
        rintro e w1 ⟨v1, rfl, ho1, hb1⟩
        obtain ⟨a1, c1, rfl, hi1, _⟩ := ints_of_owns ho1
        obtain ⟨b, o, x, rfl, hx, hc, _⟩ := hi1.get (k := K) (by rw [ints_length, ord_length]; omega)
        have hlen : r + d < ((ints (ord N 0)).length : Int) := by rw [ints_length, ord_length]; omega
        rw [getD_ints] at hx
        have hz := hb.size
        have HI := Lib.hid hi1
        have HB := Lib.hid (hb.trans (hb1.mono hz))
        have hKe : K = (r + d).toNat := by have := HK.out; omega
        rw [hKe] at hc hx
        have HX := Lib.hid hx.out
        clear hi1 ho1 hb hb1 hKe hx
        go_wp2
        go_ret2
        exact ⟨by rw [← HX.out, HK.out]; rfl, HB.out⟩
  · have hfin : besI n a d = (0, eErr n a) := by simp [besI, h]
    have hne : (eErr n a != 0) = true := by simpa using h
    rw [hfin]
    clear h hfin
    go_enter Try.func28, Try.ntmps28
    go_wp2_with (go_at_call 18; refine (Rank22_any _ _ _).mono ?_; rintro e w' ⟨rfl, hb⟩)
    go_ret2
    exact ⟨rfl, hb⟩
end Go.Proofs.Ytcbeldemkfbliaa

/- Walks of the reference's Next and Last, of the laws' order and alive. -/
import Derived.Test.YtcbeldemkfbliaaEytzFns2
import Derived.Test.YtcbeldemkfbliaaSame
namespace Go.Proofs.Ytcbeldemkfbliaa
open Go.RowKit Go.Shelf
attribute [local go_sem] Oper.semAt_some
set_option linter.unusedVariables false

theorem besI_next (n a : Int) : besI n a 1 = eyNext n a := by
  unfold besI eyNext
  by_cases h : eErr n a = 0
  · obtain ⟨h1, h2, h3, h4⟩ := eErr_zero h
    rw [if_pos h, if_pos h]
    obtain ⟨N, rfl⟩ := Int.eq_ofNat_of_zero_le h1
    obtain ⟨A, rfl⟩ := Int.eq_ofNat_of_zero_le h3
    have hr : eyRank N A = (rk N A : Nat) := by simp [eyRank, h]
    rw [hr]
    simp only [Int.toNat_natCast]
    have hA : A < N := by omega
    cases hx : nxt N A with
    | none =>
      have := rk_nxt_none hA hx
      rw [if_pos (by omega)]; rfl
    | some p =>
      have h5 := rk_nxt hA hx
      have h6 := nxt_lt hA hx
      have h7 := rk_lt h6
      rw [if_neg (by omega)]
      have h8 : eErr N ((rk N A : Nat) + 1 : Int) = 0 := eErr_in h (by omega) (by omega)
      simp only [opt2, eyPlace, h8, if_pos, Int.toNat_natCast]
      rw [show ((rk N A : Nat) + 1 : Int).toNat = rk N p by omega, ord_rk h6]
  · rw [if_neg h, if_neg h]
theorem besI_last (n a : Int) : besI n a (-1) = eyLast n a := by
  unfold besI eyLast
  by_cases h : eErr n a = 0
  · obtain ⟨h1, h2, h3, h4⟩ := eErr_zero h
    rw [if_pos h, if_pos h]
    obtain ⟨N, rfl⟩ := Int.eq_ofNat_of_zero_le h1
    obtain ⟨A, rfl⟩ := Int.eq_ofNat_of_zero_le h3
    have hr : eyRank N A = (rk N A : Nat) := by simp [eyRank, h]
    rw [hr]
    simp only [Int.toNat_natCast]
    have hA : A < N := by omega
    cases hx : prv N A with
    | none =>
      have := rk_prv_none hx
      rw [if_pos (by omega)]; rfl
    | some p =>
      have h5 := rk_prv hx
      have h6 := prv_lt hA hx
      have h7 := rk_lt hA
      rw [if_neg (by omega)]
      have h8 : eErr N ((rk N A : Nat) + -1 : Int) = 0 := eErr_in h (by omega) (by omega)
      simp only [opt2, eyPlace, h8, if_pos, Int.toNat_natCast]
      rw [show ((rk N A : Nat) + -1 : Int).toNat = rk N p by omega, ord_rk h6]
  · rw [if_neg h, if_neg h]

theorem Next22_any (n a : Int) (w : World) :
    Calls Try.prog 19 #[.int .i64 n, .int .i64 a] w (Gives w (.tuple #[.int .i64 (eyNext n a).1, .int .i64 (eyNext n a).2])) := by
  have h := beside_any n a 1 (Or.inl rfl) w
  rw [besI_next] at h
  have H := Lib.hid h
  clear h
  go_enter Try.func19, Try.ntmps19
  go_wp2_with (go_at_call 28; refine H.out.mono ?_; rintro e w' ⟨rfl, hb⟩)
  go_ret2
  exact ⟨rfl, hb⟩
theorem Last22_any (n a : Int) (w : World) :
    Calls Try.prog 20 #[.int .i64 n, .int .i64 a] w (Gives w (.tuple #[.int .i64 (eyLast n a).1, .int .i64 (eyLast n a).2])) := by
  have h := beside_any n a (-1) (Or.inr rfl) w
  rw [besI_last] at h
  have H := Lib.hid h
  clear h
  go_enter Try.func20, Try.ntmps20
  go_wp2_with (go_at_call 28; refine H.out.mono ?_; rintro e w' ⟨rfl, hb⟩)
  go_ret2
  exact ⟨rfl, hb⟩

theorem order_any (ao : Option Addr) (c : Nat) (xs : List Int) (w : World) (h : IsInts w ao xs) (hl : xs.length ≤ 65536) :
    Calls Try.prog 16 #[.slice ao xs.length c] w (Gives w (.bool (decide (rnk xs.length = xs)))) := by
  have HI := Lib.hid h
  clear h
  go_enter Try.func16, Try.ntmps16
  go_wp2_with fail
  refine (Order_ok xs.length _ rfl hl _).mono ?_
  rintro e w1 ⟨v1, rfl, ho1, hb1⟩
  obtain ⟨a1, c1, rfl, hi1, _⟩ := ints_of_owns ho1
  have hi2 := HI.out.below hb1
  have HI1 := Lib.hid hi1
  have HI2 := Lib.hid hi2
  have hL : (rnk xs.length).length ≤ 1000000000 := by rw [rnk_length]; omega
  clear hi1 hi2 ho1
  go_wp2_with fail
  refine (SameInts_ok a1 ao c1 c (rnk xs.length) xs _ HI1.out HI2.out hL).mono ?_
  rintro e w3 ⟨rfl, m, rfl⟩
  go_wp2
  go_ret
  exact ⟨rfl, below_drewN hb1 m⟩

theorem lit_ints (w : World) (xs : List Int) (t : TypeId) : IsInts (w.alloc (.cells (xs.map (Value.int .i64)).toArray t)) (some ⟨w.heap.size, 0, none⟩) xs := by
  intro i hi
  refine ⟨_, _, rfl, by simp, fun j hj => ?_⟩
  rw [World.cell?_alloc_at _ _ _ _ rfl]
  simp [hj]
theorem ord_5 : ord 5 0 = [3, 1, 4, 0, 2] := by simp [ord_in, ord_out]
theorem ord_7 : ord 7 0 = [3, 1, 4, 0, 5, 2, 6] := by simp [ord_in, ord_out]
theorem rnk_0 : rnk 0 = [] := by rw [rnk, ord_out (Nat.le_refl 0)]; rfl
theorem rnk_1 : rnk 1 = [0] := by rw [rnk, show ord 1 0 = [0] by simp [ord_in, ord_out]]; rfl
theorem rnk_2 : rnk 2 = [1, 0] := by rw [rnk, show ord 2 0 = [1, 0] by simp [ord_in, ord_out]]; rfl
theorem rnk_3 : rnk 3 = [1, 0, 2] := by rw [rnk, show ord 3 0 = [1, 0, 2] by simp [ord_in, ord_out]]; rfl
theorem rnk_5 : rnk 5 = [3, 1, 4, 0, 2] := by rw [rnk, ord_5]; rfl
theorem rnk_7 : rnk 7 = [3, 1, 5, 0, 2, 4, 6] := by rw [rnk, ord_7]; rfl
theorem err_5 {k : Int} (h : 0 ≤ k ∧ k < 5) : eErr 5 k = 0 := by simp [eErr, show ¬ (k < 0 ∨ 5 ≤ k) by omega]
theorem place_5_2 : eyPlace 5 2 = 4 := by simp [eyPlace, err_5, ord_5]
theorem ups_4 : ups 4 = some 0 := by rw [ups_even rfl (by decide), show (4 - 1) / 2 = 1 from rfl, ups_odd rfl]
theorem ups_2 : ups 2 = none := by rw [ups_even rfl (by decide), show (2 - 1) / 2 = 0 from rfl, ups_zero]
theorem upsE_3 : upsE 3 = none := by rw [upsE_odd rfl, show (3 - 1) / 2 = 1 from rfl, upsE_odd rfl, show (1 - 1) / 2 = 0 from rfl, upsE_zero]
theorem upsE_2 : upsE 2 = some 0 := by rw [upsE_even rfl (by decide)]
theorem next_5_4 : eyNext 5 4 = (0, 0) := by simp [eyNext, err_5, nxt, ups_4, opt2]
theorem next_5_2 : eyNext 5 2 = (0, 6) := by simp [eyNext, err_5, nxt, ups_2, opt2]
theorem last_5_3 : eyLast 5 3 = (0, 6) := by simp [eyLast, err_5, prv, upsE_3, opt2]
theorem last_5_2 : eyLast 5 2 = (0, 0) := by simp [eyLast, err_5, prv, upsE_2, opt2]
theorem rank_7_6 : eyRank 7 6 = 6 := by
  have h : eErr 7 6 = 0 := by simp [eErr]
  have := rnk_get (n := 7) (a := 6) (by decide)
  rw [rnk_7] at this
  simp only [eyRank, h, if_pos]
  exact this.symm

theorem alive22 (w : World) : Calls Try.prog 11 #[] w (Gives w (.bool true)) := by
  have c1 := fun w => Place_any 5 2 w
  have c2 := fun w => Next_any 5 4 w
  have c3 := fun w => Next_any 5 2 w
  rw [place_5_2, err_5 (by decide)] at c1
  rw [next_5_4] at c2
  rw [next_5_2] at c3
  have C1 := Lib.hid c1
  have C2 := Lib.hid c2
  have C3 := Lib.hid c3
  clear c1 c2 c3
  go_enter Try.func11, Try.ntmps11
  go_wp2_with fail
  refine (C1.out _).mono ?_
  rintro e w1 ⟨rfl, hb1⟩
  go_wp2_with fail
  refine (C2.out _).mono ?_
  rintro e w2 ⟨rfl, hb2⟩
  go_wp2_with fail
  refine (C3.out _).mono ?_
  rintro e w3 ⟨rfl, hb3⟩
  go_wp2_with fail
  refine (order_any _ _ [3, 1, 4, 0, 2] _ (lit_ints w3 [3, 1, 4, 0, 2] _) (by decide)).mono ?_
  rintro e w4 ⟨rfl, hb4⟩
  simp only [List.length_cons, List.length_nil, Nat.reduceAdd, rnk_5]
  go_wp2
  go_ret
  have hz1 := hb1.size
  have hz2 := hb2.size
  have hz3 := hb3.size
  refine ⟨by simp, ?_⟩
  have h3 := (hb1.trans (hb2.mono (by omega))).trans (hb3.mono (by omega))
  have h4 := h3.alloc (by omega) (.cells #[.int .i64 3, .int .i64 1, .int .i64 4, .int .i64 0, .int .i64 2] 3)
  exact h4.trans (hb4.mono (by simp; omega))
end Go.Proofs.Ytcbeldemkfbliaa

/-
  EytzNames: the limit, the errors and the examples.
  No condition.
-/
import Derived.Test.YtcbeldemkfbliaaEytzAlive
namespace Go.Proofs.Ytcbeldemkfbliaa
open Go.RowKit Go.Shelf
set_option linter.unusedVariables false

theorem err_many {n a : Int} (h : 65536 < n) : eErr n a = 4 := by simp [eErr, h, show ¬ n < 0 by omega]
theorem err_arg {n a : Int} (h : 0 ≤ n ∧ n ≤ 65536) (h2 : a < 0 ∨ n ≤ a) : eErr n a = 2 := by simp [eErr, h2, show ¬ n < 0 by omega, show ¬ 65536 < n by omega]

theorem below_lit {w w1 w2 : World} {ob : Obj} (h : Below w.heap.size w w1) (h2 : Below (w1.alloc ob).heap.size (w1.alloc ob) w2) : Below w.heap.size w w2 := by
  have hz := h.size
  exact (h.alloc hz ob).trans (h2.mono (by simp; omega))

set_option maxRecDepth 20000 in
set_option maxHeartbeats 2000000 in
theorem EytzNames_walk (w : World) :
    Calls Try.prog 5 #[] w fun e w' => e = .returned (.bool true) ∧ Below w.heap.size w w' := by
  have c1 := fun w => Order_many 65537 (by decide) w
  have c2 := fun w => Order_neg (-1) (by decide) w
  have c3 := fun w => Place_any 5 5 w
  have c4 := fun w => Rank_any 0 0 w
  have c5 := fun w => Last_any 5 3 w
  have c6 := fun w => Last_any 5 2 w
  have c7 := fun w => Rank_any 7 6 w
  have c8 := fun w => Next_any 65537 (-1) w
  have c9 := fun w => Next_any 5 (-1) w
  rw [err_arg (by decide) (by decide)] at c3 c4
  rw [last_5_3] at c5
  rw [last_5_2] at c6
  rw [rank_7_6, show eErr 7 6 = 0 by simp [eErr]] at c7
  rw [show eyNext 65537 (-1) = (0, 4) by simp [eyNext, err_many]] at c8
  rw [show eyNext 5 (-1) = (0, 2) by simp [eyNext, eErr]] at c9
  have C1 := Lib.hid c1; have C2 := Lib.hid c2; have C3 := Lib.hid c3
  have C4 := Lib.hid c4; have C5 := Lib.hid c5; have C6 := Lib.hid c6
  have C7 := Lib.hid c7; have C8 := Lib.hid c8; have C9 := Lib.hid c9
  clear c1 c2 c3 c4 c5 c6 c7 c8 c9
  go_enter Try.func5, Try.ntmps5
  go_wp2_with fail
  refine (C1.out _).mono ?_
  rintro e w1 ⟨rfl, rfl⟩
  go_wp2_with fail
  refine (C2.out _).mono ?_
  rintro e w2 ⟨rfl, rfl⟩
  go_wp2_with fail
  refine (C3.out _).mono ?_
  rintro e w3 ⟨rfl, hb3⟩
  go_wp2_with fail
  refine (C4.out _).mono ?_
  rintro e w4 ⟨rfl, hb4⟩
  go_wp2_with fail
  refine (C5.out _).mono ?_
  rintro e w5 ⟨rfl, hb5⟩
  go_wp2_with fail
  refine (C6.out _).mono ?_
  rintro e w6 ⟨rfl, hb6⟩
  go_wp2_with fail
  refine (C7.out _).mono ?_
  rintro e w7 ⟨rfl, hb7⟩
  go_wp2_with fail
  refine (C8.out _).mono ?_
  rintro e w8 ⟨rfl, hb8⟩
  go_wp2_with fail
  refine (C9.out _).mono ?_
  rintro e w9 ⟨rfl, hb9⟩
  have hz3 := hb3.size; have hz4 := hb4.size; have hz5 := hb5.size; have hz6 := hb6.size
  have hz7 := hb7.size; have hz8 := hb8.size; have hz9 := hb9.size
  have hz : w.heap.size ≤ w9.heap.size := by omega
  have HB := Lib.hid ((((((hb3.trans (hb4.mono (by omega))).trans (hb5.mono (by omega))).trans (hb6.mono (by omega))).trans (hb7.mono (by omega))).trans (hb8.mono (by omega))).trans (hb9.mono (by omega)))
  clear hb3 hb4 hb5 hb6 hb7 hb8 hb9 hz3 hz4 hz5 hz6 hz7 hz8 hz9
  go_wp2_with fail
  refine (alive22 _).mono ?_
  rintro e w10 ⟨rfl, hb10⟩
  go_wp2_with fail
  refine (order_any _ _ [] _ (fun i hi => by cases hi) (by decide)).mono ?_
  rintro e w11 ⟨rfl, hb11⟩
  simp only [List.length_nil, rnk_0]
  go_wp2_with fail
  refine (order_any _ _ [0] _ (lit_ints w11 [0] _) (by decide)).mono ?_
  rintro e w12 ⟨rfl, hb12⟩
  simp only [List.length_cons, List.length_nil, Nat.reduceAdd, rnk_1]
  go_wp2_with fail
  refine (order_any _ _ [1, 0] _ (lit_ints w12 [1, 0] _) (by decide)).mono ?_
  rintro e w13 ⟨rfl, hb13⟩
  simp only [List.length_cons, List.length_nil, Nat.reduceAdd, rnk_2]
  go_wp2_with fail
  refine (order_any _ _ [1, 0, 2] _ (lit_ints w13 [1, 0, 2] _) (by decide)).mono ?_
  rintro e w14 ⟨rfl, hb14⟩
  simp only [List.length_cons, List.length_nil, Nat.reduceAdd, rnk_3]
  go_wp2_with fail
  refine (order_any _ _ [3, 1, 5, 0, 2, 4, 6] _ (lit_ints w14 [3, 1, 5, 0, 2, 4, 6] _) (by decide)).mono ?_
  rintro e w15 ⟨rfl, hb15⟩
  simp only [List.length_cons, List.length_nil, Nat.reduceAdd, rnk_7]
  go_wp2
  go_ret
  refine ⟨by simp, ?_⟩
  have h10 := HB.out.trans (hb10.mono hz)
  have h11 := h10.trans (hb11.mono h10.size)
  have h12 := below_lit h11 hb12
  have h13 := below_lit h12 hb13
  have h14 := below_lit h13 hb14
  exact below_lit h14 hb15
end Go.Proofs.Ytcbeldemkfbliaa

/-
  VebBack: each place has one node, each node one place.
  No condition.
-/
import Derived.Test.YtammdgffdgegfaaVebAlive
namespace Go.Proofs.Ytammdgffdgegfaa
open Go.RowKit Go.Shelf
set_option linter.unusedVariables false
set_option linter.unusedSimpArgs false

set_option maxRecDepth 100000 in
set_option maxHeartbeats 4000000 in
theorem VebBack_walk (l n : Int) (w : World) :
    Calls Try.prog 4 #[.int .i64 l, .int .i64 n] w fun e w' => e = .returned (.bool true) ∧ Below w.heap.size w w' := by
  have P := fun w => Place_any l n w
  by_cases hl : 1 ≤ l ∧ l ≤ 14
  · obtain ⟨h1, h2⟩ := hl
    obtain ⟨L, rfl⟩ := Int.eq_ofNat_of_zero_le (show 0 ≤ l by omega)
    have T := fun w => Table_ok L L rfl (by omega) (by omega) w
    have S := fun w => Size_ok L h1 h2 w
    have hlen : (plc L).length = 2 ^ L - 1 := by rw [plc, fillTo_length]
    have hsz : (2 : Int) ^ (L : Int).toNat - 1 = ((plc L).length : Nat) := by rw [hlen, pow_nat]; rfl
    rw [hsz] at S
    have hlb : (plc L).length ≤ 16384 := by
      have : 2 ^ L ≤ 2 ^ 14 := Nat.pow_le_pow_right (by omega) (by omega)
      omega
    have N := fun w => Node_any L n w
    have hplc : ndE L n = 0 → ∃ j : Nat, n - 1 = (j : Int) ∧ j < (plc L).length ∧ (plc L).getD j 0 = vpR L n ∧ 1 ≤ n ∧ n ≤ ((plc L).length : Nat) := by
      intro h
      obtain ⟨_, _, h3, h4⟩ := ndE_zero h
      obtain ⟨M, rfl⟩ := Int.eq_ofNat_of_zero_le (show 0 ≤ n by omega)
      simp only [Int.toNat_natCast] at h4
      have hc := pow_cast L
      have := plc_get (L := L) (n := M) (by omega) (by omega) (by omega)
      have hv : vpR L M = (vpos L M : Nat) := by rw [vpR, h]; rfl
      exact ⟨M - 1, by omega, by omega, by rw [this, hv], h3, by omega⟩
    have hthere := @veb_there L n
    have hback := @veb_back L n
    by_cases h : ndE L n = 0
    · obtain ⟨t1, t2⟩ := hthere h
      obtain ⟨j, j1, j2, j3, j4, j5⟩ := hplc h
      have NB := fun w => Node_any L (vpR L n) w
      rw [t1, t2] at NB
      rw [h] at P
      by_cases hv : vnE L n = 0
      · obtain ⟨b1, b2⟩ := hback hv
        have PB := fun w => Place_any L (vnR L n) w
        rw [b1, b2] at PB
        rw [hv] at N
        generalize vpR L n = y at *
        generalize vnR L n = z at *
        generalize plc L = ps at *
        have P := Lib.hid P; have T := Lib.hid T; have S := Lib.hid S; have N := Lib.hid N; have NB := Lib.hid NB; have PB := Lib.hid PB
        have J := Lib.hid j3
        have e1 : (n != n) = false := by simp
        have e2 : (n == n) = true := by simp
        have e3 : (((ps.length : Nat) : Int) != ((ps.length : Nat) : Int)) = false := by simp
        have e4 : (y != y) = false := by simp
        have jt : (n - 1).toNat = j := by omega
        have hn1 : 0 ≤ n - 1 := by omega
        have hn2 : n - 1 < (ps.length : Int) := by omega
        clear hsz hlen hplc hthere hback t1 t2 j1 j3 b1 b2 h hv
        go_enter Try.func4, Try.ntmps4
        go_wp2_with fail
        refine (alive17 _).mono ?_
        rintro e w1 ⟨rfl, hb1⟩
        have hz_w1 := hb1.size
        try simp only [World.size_alloc, World.size_setCell] at hz_w1
        go_wp2_with fail
        refine (P.out _).mono ?_
        rintro e w2 ⟨rfl, hb2⟩
        have hz_w2 := hb2.size
        try simp only [World.size_alloc, World.size_setCell] at hz_w2
        go_wp2_with fail
        refine (T.out _).mono ?_
        rintro e w3 ⟨v3, rfl, ho3, hb3⟩
        have hz_w3 := hb3.size
        try simp only [World.size_alloc, World.size_setCell] at hz_w3
        obtain ⟨a3, c3, rfl, hi3, -⟩ := ints_of_owns ho3
        obtain ⟨b, o, x, rfl, hx, hc, hbl⟩ := hi3.get j2
        rw [J.out] at hx
        have hx := hx.out
        subst hx
        clear ho3 hi3
        go_wp2_with fail
        refine (S.out _).mono ?_
        rintro e w' ⟨rfl, rfl⟩
        go_wp2_with fail
        refine (NB.out _).mono ?_
        rintro e w4 ⟨rfl, hb4⟩
        have hz_w4 := hb4.size
        try simp only [World.size_alloc, World.size_setCell] at hz_w4
        have hc4 := (hb4.cell (p := ⟨b, o + j, none⟩) hbl).trans hc
        have hB4 : Below w.heap.size w w4 := by (repeat (first | (with_reducible exact Below.refl _ _) | (with_reducible assumption) | (with_reducible exact Hid.out (by with_reducible assumption)) | (with_reducible refine Below.alloc ?_ ?_ _) | (with_reducible refine Below.setCell ?_ ?_ _) | (with_reducible refine below_drewN ?_ _) | (with_reducible refine Below.drew ?_) | (with_reducible refine below_via (by with_reducible assumption) ?_ ?_) | (first | (with_reducible assumption) | omega | (simp only [World.size_alloc, World.size_setCell, World.size_drew, World.heap_drewN] <;> omega) | (simp <;> omega))))
        clear hc
        go_wp2_with fail
        refine (N.out _).mono ?_
        rintro e w5 ⟨rfl, hb5⟩
        have hz_w5 := hb5.size
        try simp only [World.size_alloc, World.size_setCell] at hz_w5
        go_wp2_with fail
        refine (PB.out _).mono ?_
        rintro e w6 ⟨rfl, hb6⟩
        have hz_w6 := hb6.size
        try simp only [World.size_alloc, World.size_setCell] at hz_w6
        have hB : Below w.heap.size w w6 := by (repeat (first | (with_reducible exact Below.refl _ _) | (with_reducible assumption) | (with_reducible exact Hid.out (by with_reducible assumption)) | (with_reducible refine Below.alloc ?_ ?_ _) | (with_reducible refine Below.setCell ?_ ?_ _) | (with_reducible refine below_drewN ?_ _) | (with_reducible refine Below.drew ?_) | (with_reducible refine below_via (by with_reducible assumption) ?_ ?_) | (first | (with_reducible assumption) | omega | (simp only [World.size_alloc, World.size_setCell, World.size_drew, World.heap_drewN] <;> omega) | (simp <;> omega))))
        go_wp2
        go_ret
        exact ⟨rfl, hB⟩
      · have hv2 := vnE_no hv
        have PB := fun w => Place_any L (vnR L n) w
        rw [hv2] at N
        generalize vpR L n = y at *
        generalize vnR L n = z at *
        generalize plc L = ps at *
        generalize vpR L z = y5 at *
        generalize ndE L z = x5 at *
        have P := Lib.hid P; have T := Lib.hid T; have S := Lib.hid S; have N := Lib.hid N; have NB := Lib.hid NB; have PB := Lib.hid PB
        have J := Lib.hid j3
        have e1 : (n != n) = false := by simp
        have e2 : (n == n) = true := by simp
        have e3 : (((ps.length : Nat) : Int) != ((ps.length : Nat) : Int)) = false := by simp
        have e4 : (y != y) = false := by simp
        have jt : (n - 1).toNat = j := by omega
        have hn1 : 0 ≤ n - 1 := by omega
        have hn2 : n - 1 < (ps.length : Int) := by omega
        clear hsz hlen hplc hthere hback t1 t2 j1 j3 h hv hv2
        go_enter Try.func4, Try.ntmps4
        go_wp2_with fail
        refine (alive17 _).mono ?_
        rintro e w1 ⟨rfl, hb1⟩
        have hz_w1 := hb1.size
        try simp only [World.size_alloc, World.size_setCell] at hz_w1
        go_wp2_with fail
        refine (P.out _).mono ?_
        rintro e w2 ⟨rfl, hb2⟩
        have hz_w2 := hb2.size
        try simp only [World.size_alloc, World.size_setCell] at hz_w2
        go_wp2_with fail
        refine (T.out _).mono ?_
        rintro e w3 ⟨v3, rfl, ho3, hb3⟩
        have hz_w3 := hb3.size
        try simp only [World.size_alloc, World.size_setCell] at hz_w3
        obtain ⟨a3, c3, rfl, hi3, -⟩ := ints_of_owns ho3
        obtain ⟨b, o, x, rfl, hx, hc, hbl⟩ := hi3.get j2
        rw [J.out] at hx
        have hx := hx.out
        subst hx
        clear ho3 hi3
        go_wp2_with fail
        refine (S.out _).mono ?_
        rintro e w' ⟨rfl, rfl⟩
        go_wp2_with fail
        refine (NB.out _).mono ?_
        rintro e w4 ⟨rfl, hb4⟩
        have hz_w4 := hb4.size
        try simp only [World.size_alloc, World.size_setCell] at hz_w4
        have hc4 := (hb4.cell (p := ⟨b, o + j, none⟩) hbl).trans hc
        have hB4 : Below w.heap.size w w4 := by (repeat (first | (with_reducible exact Below.refl _ _) | (with_reducible assumption) | (with_reducible exact Hid.out (by with_reducible assumption)) | (with_reducible refine Below.alloc ?_ ?_ _) | (with_reducible refine Below.setCell ?_ ?_ _) | (with_reducible refine below_drewN ?_ _) | (with_reducible refine Below.drew ?_) | (with_reducible refine below_via (by with_reducible assumption) ?_ ?_) | (first | (with_reducible assumption) | omega | (simp only [World.size_alloc, World.size_setCell, World.size_drew, World.heap_drewN] <;> omega) | (simp <;> omega))))
        clear hc
        go_wp2_with fail
        refine (N.out _).mono ?_
        rintro e w5 ⟨rfl, hb5⟩
        have hz_w5 := hb5.size
        try simp only [World.size_alloc, World.size_setCell] at hz_w5
        go_wp2_with fail
        refine (PB.out _).mono ?_
        rintro e w6 ⟨rfl, hb6⟩
        have hz_w6 := hb6.size
        try simp only [World.size_alloc, World.size_setCell] at hz_w6
        have hB : Below w.heap.size w w6 := by (repeat (first | (with_reducible exact Below.refl _ _) | (with_reducible assumption) | (with_reducible exact Hid.out (by with_reducible assumption)) | (with_reducible refine Below.alloc ?_ ?_ _) | (with_reducible refine Below.setCell ?_ ?_ _) | (with_reducible refine below_drewN ?_ _) | (with_reducible refine Below.drew ?_) | (with_reducible refine below_via (by with_reducible assumption) ?_ ?_) | (first | (with_reducible assumption) | omega | (simp only [World.size_alloc, World.size_setCell, World.size_drew, World.heap_drewN] <;> omega) | (simp <;> omega))))
        go_wp2
        go_ret
        exact ⟨rfl, hB⟩
    · have h' := ndE_no h
      rw [h'] at P
      by_cases hv : vnE L n = 0
      · obtain ⟨b1, b2⟩ := hback hv
        have PB := fun w => Place_any L (vnR L n) w
        rw [b1, b2] at PB
        rw [hv] at N
        generalize vpR L n = y at *
        generalize vnR L n = z at *
        generalize plc L = ps at *
        have P := Lib.hid P; have T := Lib.hid T; have S := Lib.hid S; have N := Lib.hid N; have PB := Lib.hid PB
        have e2 : (n == n) = true := by simp
        have e3 : (((ps.length : Nat) : Int) != ((ps.length : Nat) : Int)) = false := by simp
        clear hsz hlen hplc hthere hback b1 b2 h h' hv
        go_enter Try.func4, Try.ntmps4
        go_wp2_with fail
        refine (alive17 _).mono ?_
        rintro e w1 ⟨rfl, hb1⟩
        have hz_w1 := hb1.size
        try simp only [World.size_alloc, World.size_setCell] at hz_w1
        go_wp2_with fail
        refine (P.out _).mono ?_
        rintro e w2 ⟨rfl, hb2⟩
        have hz_w2 := hb2.size
        try simp only [World.size_alloc, World.size_setCell] at hz_w2
        go_wp2_with fail
        refine (T.out _).mono ?_
        rintro e w3 ⟨v3, rfl, ho3, hb3⟩
        have hz_w3 := hb3.size
        try simp only [World.size_alloc, World.size_setCell] at hz_w3
        obtain ⟨a3, c3, rfl, hi3, -⟩ := ints_of_owns ho3
        clear ho3 hi3
        go_wp2_with fail
        refine (S.out _).mono ?_
        rintro e w' ⟨rfl, rfl⟩
        go_wp2_with fail
        refine (N.out _).mono ?_
        rintro e w5 ⟨rfl, hb5⟩
        have hz_w5 := hb5.size
        try simp only [World.size_alloc, World.size_setCell] at hz_w5
        go_wp2_with fail
        refine (PB.out _).mono ?_
        rintro e w6 ⟨rfl, hb6⟩
        have hz_w6 := hb6.size
        try simp only [World.size_alloc, World.size_setCell] at hz_w6
        have hB : Below w.heap.size w w6 := by (repeat (first | (with_reducible exact Below.refl _ _) | (with_reducible assumption) | (with_reducible exact Hid.out (by with_reducible assumption)) | (with_reducible refine Below.alloc ?_ ?_ _) | (with_reducible refine Below.setCell ?_ ?_ _) | (with_reducible refine below_drewN ?_ _) | (with_reducible refine Below.drew ?_) | (with_reducible refine below_via (by with_reducible assumption) ?_ ?_) | (first | (with_reducible assumption) | omega | (simp only [World.size_alloc, World.size_setCell, World.size_drew, World.heap_drewN] <;> omega) | (simp <;> omega))))
        go_wp2
        go_ret
        exact ⟨rfl, hB⟩
      · have hv2 := vnE_no hv
        have PB := fun w => Place_any L (vnR L n) w
        rw [hv2] at N
        generalize vpR L n = y at *
        generalize vnR L n = z at *
        generalize plc L = ps at *
        generalize vpR L z = y5 at *
        generalize ndE L z = x5 at *
        have P := Lib.hid P; have T := Lib.hid T; have S := Lib.hid S; have N := Lib.hid N; have PB := Lib.hid PB
        have e3 : (((ps.length : Nat) : Int) != ((ps.length : Nat) : Int)) = false := by simp
        clear hsz hlen hplc hthere hback h h' hv hv2
        go_enter Try.func4, Try.ntmps4
        go_wp2_with fail
        refine (alive17 _).mono ?_
        rintro e w1 ⟨rfl, hb1⟩
        have hz_w1 := hb1.size
        try simp only [World.size_alloc, World.size_setCell] at hz_w1
        go_wp2_with fail
        refine (P.out _).mono ?_
        rintro e w2 ⟨rfl, hb2⟩
        have hz_w2 := hb2.size
        try simp only [World.size_alloc, World.size_setCell] at hz_w2
        go_wp2_with fail
        refine (T.out _).mono ?_
        rintro e w3 ⟨v3, rfl, ho3, hb3⟩
        have hz_w3 := hb3.size
        try simp only [World.size_alloc, World.size_setCell] at hz_w3
        obtain ⟨a3, c3, rfl, hi3, -⟩ := ints_of_owns ho3
        clear ho3 hi3
        go_wp2_with fail
        refine (S.out _).mono ?_
        rintro e w' ⟨rfl, rfl⟩
        go_wp2_with fail
        refine (N.out _).mono ?_
        rintro e w5 ⟨rfl, hb5⟩
        have hz_w5 := hb5.size
        try simp only [World.size_alloc, World.size_setCell] at hz_w5
        go_wp2_with fail
        refine (PB.out _).mono ?_
        rintro e w6 ⟨rfl, hb6⟩
        have hz_w6 := hb6.size
        try simp only [World.size_alloc, World.size_setCell] at hz_w6
        have hB : Below w.heap.size w w6 := by (repeat (first | (with_reducible exact Below.refl _ _) | (with_reducible assumption) | (with_reducible exact Hid.out (by with_reducible assumption)) | (with_reducible refine Below.alloc ?_ ?_ _) | (with_reducible refine Below.setCell ?_ ?_ _) | (with_reducible refine below_drewN ?_ _) | (with_reducible refine Below.drew ?_) | (with_reducible refine below_via (by with_reducible assumption) ?_ ?_) | (first | (with_reducible assumption) | omega | (simp only [World.size_alloc, World.size_setCell, World.size_drew, World.heap_drewN] <;> omega) | (simp <;> omega))))
        go_wp2
        go_ret
        exact ⟨rfl, hB⟩
  · have h' : ndE l n = 2 := by simp [ndE, hl]
    rw [h'] at P
    generalize vpR l n = y at *
    have T := fun w => Table_err l (by omega) w
    have S := fun w => Size_err l (by omega) w
    have P := Lib.hid P; have T := Lib.hid T; have S := Lib.hid S
    clear h' hl
    go_enter Try.func4, Try.ntmps4
    go_wp2_with fail
    refine (alive17 _).mono ?_
    rintro e w1 ⟨rfl, hb1⟩
    have hz_w1 := hb1.size
    try simp only [World.size_alloc, World.size_setCell] at hz_w1
    go_wp2_with fail
    refine (P.out _).mono ?_
    rintro e w2 ⟨rfl, hb2⟩
    have hz_w2 := hb2.size
    try simp only [World.size_alloc, World.size_setCell] at hz_w2
    have hB : Below w.heap.size w w2 := by (repeat (first | (with_reducible exact Below.refl _ _) | (with_reducible assumption) | (with_reducible exact Hid.out (by with_reducible assumption)) | (with_reducible refine Below.alloc ?_ ?_ _) | (with_reducible refine Below.setCell ?_ ?_ _) | (with_reducible refine below_drewN ?_ _) | (with_reducible refine Below.drew ?_) | (with_reducible refine below_via (by with_reducible assumption) ?_ ?_) | (first | (with_reducible assumption) | omega | (simp only [World.size_alloc, World.size_setCell, World.size_drew, World.heap_drewN] <;> omega) | (simp <;> omega))))
    go_wp2_with fail
    refine (T.out _).mono ?_
    rintro e w' ⟨rfl, rfl⟩
    go_wp2_with fail
    refine (S.out _).mono ?_
    rintro e w' ⟨rfl, rfl⟩
    go_wp2
    go_ret
    exact ⟨rfl, hB⟩
end Go.Proofs.Ytammdgffdgegfaa

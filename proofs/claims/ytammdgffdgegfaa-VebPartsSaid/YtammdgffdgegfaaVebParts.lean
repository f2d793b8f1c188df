/-
  VebParts: the nodes of an upper part have the first places, those of a lower one places behind each other.
  No condition.
-/
import Derived.Test.YtammdgffdgegfaaVebAlive
namespace Go.Proofs.Ytammdgffdgegfaa
open Go.RowKit Go.Shelf
set_option linter.unusedVariables false
set_option linter.unusedSimpArgs false

set_option maxRecDepth 100000 in
set_option maxHeartbeats 4000000 in
theorem VebParts_walk (l n : Int) (w : World) :
    Calls Try.prog 5 #[.int .i64 l, .int .i64 n] w fun e w' => e = .returned (.bool true) ∧ Below w.heap.size w w' := by
  have P := fun w => Place_any l n w
  have S := fun w => Split_any l w
  have D := fun w => Depth_any l n w
  by_cases h : ndE l n = 0
  · obtain ⟨h1, h2, h3, h4⟩ := ndE_zero h
    by_cases hl1 : l = 1
    · subst hl1
      have e6 : spE 1 = 6 := by decide
      rw [e6] at S
      rw [h] at P D
      generalize vpR 1 n = y1 at *
      generalize spU 1 = y2 at *
      generalize spL 1 = y3 at *
      generalize dpR 1 n = y4 at *
      have P := Lib.hid P; have S := Lib.hid S; have D := Lib.hid D
      clear h h1 h2 h3 h4 e6
      go_enter Try.func5, Try.ntmps5
      go_wp2_with fail
      refine (alive17 _).mono ?_
      rintro e w1 ⟨rfl, hb1⟩
      have hz_w1 := hb1.size
      try simp only [World.size_alloc, World.size_setCell] at hz_w1
      go_wp2_with fail
      refine (P.out _).mono ?_
      rintro e w2 ⟨rfl, hb2⟩
      have hz_w2 := hb2.size
      try simp only [World.size_alloc, World.size_setCell] at hz_w2
      go_wp2_with fail
      refine (S.out _).mono ?_
      rintro e w' ⟨rfl, rfl⟩
      go_wp2_with fail
      refine (D.out _).mono ?_
      rintro e w3 ⟨rfl, hb3⟩
      have hz_w3 := hb3.size
      try simp only [World.size_alloc, World.size_setCell] at hz_w3
      have hB : Below w.heap.size w w3 := by (repeat (first | (with_reducible exact Below.refl _ _) | (with_reducible assumption) | (with_reducible exact Hid.out (by with_reducible assumption)) | (with_reducible refine Below.alloc ?_ ?_ _) | (with_reducible refine Below.setCell ?_ ?_ _) | (with_reducible refine below_drewN ?_ _) | (with_reducible refine Below.drew ?_) | (with_reducible refine below_via (by with_reducible assumption) ?_ ?_) | (first | (with_reducible assumption) | omega | (simp only [World.size_alloc, World.size_setCell, World.size_drew, World.heap_drewN] <;> omega) | (simp <;> omega))))
      go_wp2
      go_ret
      exact ⟨rfl, hB⟩
    · have hl2 : 2 ≤ l := by omega
      obtain ⟨N, rfl⟩ := Int.eq_ofNat_of_zero_le (show 0 ≤ n by omega)
      obtain ⟨L, rfl⟩ := Int.eq_ofNat_of_zero_le (show 0 ≤ l by omega)
      simp only [Int.toNat_natCast] at h4
      have hc := pow_cast L
      have hNL : N < 2 ^ L := by omega
      have e0 : spE L = 0 := by simp [spE, h1, h2, hl1]
      obtain ⟨u, hu⟩ : ∃ u, L / 2 = u := ⟨_, rfl⟩
      obtain ⟨v, hv⟩ : ∃ v, L - u = v := ⟨_, rfl⟩
      have eU : spU L = u := by rw [spU, e0, if_pos rfl]; omega
      have eL : spL L = v := by rw [spL, e0, if_pos rfl]; omega
      have eP : vpR L N = (vpos L N : Nat) := by rw [vpR, h]; rfl
      have eD : dpR L N = (N.log2 : Nat) := by rw [dpR, h]; rfl
      have eX : ptR L N = ints (pth N) := by rw [ptR, h]; rfl
      have X := fun w => Path_any L N w
      rw [eP, h] at P
      rw [eU, eL, e0] at S
      rw [eD, h] at D
      rw [eX, h] at X
      have hu7 : 1 ≤ u ∧ u ≤ 7 ∧ 1 ≤ v ∧ v ≤ 7 := by omega
      obtain ⟨u1, u2, v1, v2⟩ := hu7
      have Z1 := fun w => Size_ok u (by omega) (by omega) w
      have Z2 := fun w => Size_ok v (by omega) (by omega) w
      simp only [Int.toNat_natCast] at Z1 Z2
      rw [← pow_nat] at Z1 Z2
      have hxl : (ints (pth N)).length = N.log2 + 1 := by rw [ints_length, pth_length]
      have hvb : vpos L N ≤ 16384 := by
        have := (vpos_lay (L := L) (n := N) (by omega) (by omega) hNL).1
        have : 2 ^ L ≤ 2 ^ 14 := Nat.pow_le_pow_right (by omega) (by omega)
        omega
      have hlog : N.log2 < L := log2_lt_of (by omega) hNL
      obtain ⟨pu1, pu2⟩ : 1 ≤ 2 ^ u ∧ 2 ^ u ≤ 128 := ⟨Nat.two_pow_pos u, Nat.pow_le_pow_right (by omega) (by omega : u ≤ 7)⟩
      obtain ⟨pv1, pv2⟩ : 2 ≤ 2 ^ v ∧ 2 ^ v ≤ 128 := ⟨by have := Nat.pow_le_pow_right (n := 2) (by omega) (show 1 ≤ v by omega); omega, Nat.pow_le_pow_right (by omega) (by omega : v ≤ 7)⟩
      have e9 : (((ints (pth N)).length : Int) != ((N.log2 : Nat) : Int) + 1) = false := by rw [hxl]; simp
      by_cases hd : N.log2 < u
      · obtain ⟨k1, k2, k3⟩ := veb_upper (by omega) hu (by omega) hd
        have hndu : ndE u N = 0 := ndE_ok (by omega) (by omega) (by omega) (by simp only [Int.toNat_natCast]; rw [← pow_cast]; omega)
        have Q := fun w => Place_any u N w
        have eQ : vpR u N = (vpos L N : Nat) := by rw [vpR, hndu, k1]; rfl
        rw [eQ, hndu] at Q
        rw [← k1] at k3
        generalize ints (pth N) = xs at *
        generalize vpos L N = V at *
        generalize N.log2 = d at *
        generalize 2 ^ u = X2 at *
        generalize 2 ^ v = Y2 at *
        have e1 : ((V : Int) == (V : Int)) = true := by simp
        have hdi : (d : Int) < (u : Int) := by omega
        have hVi : (V : Int) < ((X2 - 1 : Nat) : Int) := by omega
        have hxl14 : xs.length ≤ 15 := by omega
        have P := Lib.hid P; have S := Lib.hid S; have D := Lib.hid D; have X := Lib.hid X; have Z1 := Lib.hid Z1; have Z2 := Lib.hid Z2; have Q := Lib.hid Q
        clear h h1 h2 h3 h4 hc hNL e0 eU eL eP eD eX eQ hndu hu hv k1 k2 k3 hxl hl1 hl2 hd
        go_enter Try.func5, Try.ntmps5
        go_wp2_with fail
        refine (alive17 _).mono ?_
        rintro e w1 ⟨rfl, hb1⟩
        have hz_w1 := hb1.size
        try simp only [World.size_alloc, World.size_setCell] at hz_w1
        go_wp2_with fail
        refine (P.out _).mono ?_
        rintro e w2 ⟨rfl, hb2⟩
        have hz_w2 := hb2.size
        try simp only [World.size_alloc, World.size_setCell] at hz_w2
        go_wp2_with fail
        refine (S.out _).mono ?_
        rintro e w' ⟨rfl, rfl⟩
        go_wp2_with fail
        refine (D.out _).mono ?_
        rintro e w3 ⟨rfl, hb3⟩
        have hz_w3 := hb3.size
        try simp only [World.size_alloc, World.size_setCell] at hz_w3
        go_wp2_with fail
        refine (X.out _).mono ?_
        rintro e w4 ⟨v4, rfl, ho4, hb4⟩
        have hz_w4 := hb4.size
        try simp only [World.size_alloc, World.size_setCell] at hz_w4
        obtain ⟨a4, c4, rfl, hi4, -⟩ := ints_of_owns ho4
        clear ho4 hi4
        go_wp2_with fail
        refine (Z1.out _).mono ?_
        rintro e w' ⟨rfl, rfl⟩
        go_wp2_with fail
        refine (Z2.out _).mono ?_
        rintro e w' ⟨rfl, rfl⟩
        go_wp2_with fail
        refine (Q.out _).mono ?_
        rintro e w5 ⟨rfl, hb5⟩
        have hz_w5 := hb5.size
        try simp only [World.size_alloc, World.size_setCell] at hz_w5
        have hB : Below w.heap.size w w5 := by (repeat (first | (with_reducible exact Below.refl _ _) | (with_reducible assumption) | (with_reducible exact Hid.out (by with_reducible assumption)) | (with_reducible refine Below.alloc ?_ ?_ _) | (with_reducible refine Below.setCell ?_ ?_ _) | (with_reducible refine below_drewN ?_ _) | (with_reducible refine Below.drew ?_) | (with_reducible refine below_via (by with_reducible assumption) ?_ ?_) | (first | (with_reducible assumption) | omega | (simp only [World.size_alloc, World.size_setCell, World.size_drew, World.heap_drewN] <;> omega) | (simp <;> omega))))
        go_wp2
        go_ret
        exact ⟨rfl, hB⟩
      · obtain ⟨i, i1, i2, i3, i4, i5⟩ := veb_lower (L := L) (u := u) (v := v) (n := N) (by omega) hu hv (by omega) hNL hd
        have hroot : (ints (pth N)).getD u 0 = ((2 ^ u + i : Nat) : Int) := by
          have := pth_get N (by omega) (N.log2 - u) (by omega)
          rw [show N.log2 - (N.log2 - u) = u by omega, i1] at this
          rw [getD_ints, this]
        have hndr : ndE L ((2 ^ u + i : Nat) : Int) = 0 := by
          refine ndE_ok (by omega) (by omega) (by omega) ?_
          simp only [Int.toNat_natCast]
          have : 2 ^ (u + 1) ≤ 2 ^ L := Nat.pow_le_pow_right (by omega) (by omega)
          rw [Nat.pow_succ] at this
          rw [← pow_cast]
          omega
        have Q := fun w => Place_any L ((2 ^ u + i : Nat) : Int) w
        have eQ : vpR L ((2 ^ u + i : Nat) : Int) = (vpos L (2 ^ u + i) : Nat) := by rw [vpR, hndr]; rfl
        rw [eQ, hndr, i3] at Q
        obtain ⟨Z, hZ⟩ : ∃ Z, i * (2 ^ v - 1) = Z := ⟨_, rfl⟩
        have hZI : (i : Int) * ((2 ^ v - 1 : Nat) : Int) = (Z : Int) := by rw [← hZ]; push_cast; rfl
        rw [hZ] at Q i4 i5
        generalize ints (pth N) = xs at *
        generalize vpos L N = V at *
        generalize N.log2 = d at *
        generalize 2 ^ u = X2 at *
        generalize 2 ^ v = Y2 at *
        obtain ⟨F, hF⟩ : ∃ F, X2 - 1 = F := ⟨_, rfl⟩
        obtain ⟨E, hE⟩ : ∃ E, Y2 - 1 = E := ⟨_, rfl⟩
        obtain rfl : X2 = F + 1 := by omega
        obtain rfl : Y2 = E + 1 := by omega
        simp only [Nat.add_sub_cancel] at *
        have hux : u < xs.length := by omega
        have e1 : (((F + 1 + i : Nat) : Int) - (F : Int) - 1) = (i : Int) := by omega
        have e2 : (((F + Z : Nat) : Int) == (F : Int) + (Z : Int)) = true := by simp
        have hdi : ¬ (d : Int) < (u : Int) := by omega
        have hui : (u : Int) < (xs.length : Int) := by omega
        have hxl14 : xs.length ≤ 15 := by omega
        have g1 : ((F + Z : Nat) : Int) ≤ (V : Int) := by omega
        have g1' : F + Z ≤ V := by omega
        have g2 : (V : Int) < ((F + Z : Nat) : Int) + (E : Int) := by omega
        have g2' : V < F + Z + E := by omega
        have g3 : (1 : Int) ≤ (E : Int) := by omega
        have g3' : 0 < E := by omega
        have g3'' : E ≠ 0 := by omega
        have g4 : Z ≤ 16384 := by omega
        have g5 : E ≤ 128 := by omega
        have g6 : F ≤ 128 := by omega
        have g7 : d ≤ 13 := by omega
        have HM := Lib.hid hZI
        have P := Lib.hid P; have S := Lib.hid S; have D := Lib.hid D; have X := Lib.hid X; have Z1 := Lib.hid Z1; have Z2 := Lib.hid Z2; have Q := Lib.hid Q
        have HR := Lib.hid hroot
        have HE := Lib.hid e1
        clear h h1 h2 h3 h4 hc hNL e0 eU eL eP eD eX eQ hndr hu hv hxl hl1 hl2 hd hZ hZI i1 i3 i4 i5 hroot e1 hF hE
        go_enter Try.func5, Try.ntmps5
        go_wp2_with fail
        refine (alive17 _).mono ?_
        rintro e w1 ⟨rfl, hb1⟩
        have hz_w1 := hb1.size
        try simp only [World.size_alloc, World.size_setCell] at hz_w1
        go_wp2_with fail
        refine (P.out _).mono ?_
        rintro e w2 ⟨rfl, hb2⟩
        have hz_w2 := hb2.size
        try simp only [World.size_alloc, World.size_setCell] at hz_w2
        go_wp2_with fail
        refine (S.out _).mono ?_
        rintro e w' ⟨rfl, rfl⟩
        go_wp2_with fail
        refine (D.out _).mono ?_
        rintro e w3 ⟨rfl, hb3⟩
        have hz_w3 := hb3.size
        try simp only [World.size_alloc, World.size_setCell] at hz_w3
        go_wp2_with fail
        refine (X.out _).mono ?_
        rintro e w4 ⟨v4, rfl, ho4, hb4⟩
        have hz_w4 := hb4.size
        try simp only [World.size_alloc, World.size_setCell] at hz_w4
        obtain ⟨a4, c4, rfl, hi4, -⟩ := ints_of_owns ho4
        obtain ⟨b, o, x, rfl, hx, hcx, hbl⟩ := hi4.get hux
        rw [HR.out] at hx
        have hx := hx.out
        subst hx
        clear ho4 hi4
        go_wp2_with fail
        refine (Z1.out _).mono ?_
        rintro e w' ⟨rfl, rfl⟩
        go_wp2_with fail
        refine (Z2.out _).mono ?_
        rintro e w' ⟨rfl, rfl⟩
        go_wp2_with fail
        refine (Q.out _).mono ?_
        rintro e w5 ⟨rfl, hb5⟩
        have hB : Below w.heap.size w w5 := by (repeat (first | (with_reducible exact Below.refl _ _) | (with_reducible assumption) | (with_reducible exact Hid.out (by with_reducible assumption)) | (with_reducible refine Below.alloc ?_ ?_ _) | (with_reducible refine Below.setCell ?_ ?_ _) | (with_reducible refine below_drewN ?_ _) | (with_reducible refine Below.drew ?_) | (with_reducible refine below_via (by with_reducible assumption) ?_ ?_) | (first | (with_reducible assumption) | omega | (simp only [World.size_alloc, World.size_setCell, World.size_drew, World.heap_drewN] <;> omega) | (simp <;> omega))))
        have hE := HE.out
        have hE2 : (F : Int) + 1 + (i : Int) - (F : Int) - 1 = (i : Int) := by omega
        have hM := HM.out
        go_wp2
        go_ret
        exact ⟨by have : (V : Int) < (F : Int) + (Z : Int) + (E : Int) := by omega
                  simp [this], hB⟩
  · have h' := ndE_no h
    have d0 : dpR l n = 0 := by rw [dpR, h']; rfl
    rw [h'] at P D
    generalize vpR l n = y1 at *
    generalize spU l = y2 at *
    generalize spL l = y3 at *
    generalize spE l = y5 at *
    generalize dpR l n = y4 at *
    have P := Lib.hid P; have S := Lib.hid S; have D := Lib.hid D
    clear h h' d0
    go_enter Try.func5, Try.ntmps5
    go_wp2_with fail
    refine (alive17 _).mono ?_
    rintro e w1 ⟨rfl, hb1⟩
    have hz_w1 := hb1.size
    try simp only [World.size_alloc, World.size_setCell] at hz_w1
    go_wp2_with fail
    refine (P.out _).mono ?_
    rintro e w2 ⟨rfl, hb2⟩
    have hz_w2 := hb2.size
    try simp only [World.size_alloc, World.size_setCell] at hz_w2
    go_wp2_with fail
    refine (S.out _).mono ?_
    rintro e w' ⟨rfl, rfl⟩
    go_wp2_with fail
    refine (D.out _).mono ?_
    rintro e w3 ⟨rfl, hb3⟩
    have hz_w3 := hb3.size
    try simp only [World.size_alloc, World.size_setCell] at hz_w3
    have hB : Below w.heap.size w w3 := by (repeat (first | (with_reducible exact Below.refl _ _) | (with_reducible assumption) | (with_reducible exact Hid.out (by with_reducible assumption)) | (with_reducible refine Below.alloc ?_ ?_ _) | (with_reducible refine Below.setCell ?_ ?_ _) | (with_reducible refine below_drewN ?_ _) | (with_reducible refine Below.drew ?_) | (with_reducible refine below_via (by with_reducible assumption) ?_ ?_) | (first | (with_reducible assumption) | omega | (simp only [World.size_alloc, World.size_setCell, World.size_drew, World.heap_drewN] <;> omega) | (simp <;> omega))))
    go_wp2
    go_ret
    exact ⟨rfl, hB⟩
end Go.Proofs.Ytammdgffdgegfaa

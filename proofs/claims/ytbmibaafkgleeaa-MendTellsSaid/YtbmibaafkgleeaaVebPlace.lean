/- The walk of veb.Place. -/
import Derived.Test.YtbmibaafkgleeaaHeapDp
import Derived.Test.YtbmibaafkgleeaaVebPos
import Derived.Laws.BitsLemmas
namespace Go.Proofs.Ytbmibaafkgleeaa
open Go.RowKit Go.Shelf
set_option linter.unusedVariables false
set_option linter.unusedSimpArgs false

theorem wrap64_in {x : Int} (h0 : -9223372036854775808 ≤ x) (h1 : x < 9223372036854775808) : wrap64 x = x := by unfold wrap64; omega
theorem wraps_i64' (n : Int) (h₀ : 0 ≤ n) (h₁ : n < 2 ^ 63) : IntKind.i64.wrap n = n := by rw [IntKind.wrap_i64]; omega

/-- a node's number in a lower part -/
theorem low_node {u f i : Nat} (hu : u ≤ 13) (hf : f ≤ 13) (huf : u + f ≤ 13) (hi : i < 2 ^ (u + f)) :
    bits BinOp.or IntKind.i64 (wrap64 (2 ^ f)) (bits BinOp.and IntKind.i64 (2 ^ (u + f) + (i : Int)) (wrap64 (wrap64 (2 ^ f) - 1))) = ((2 ^ f + i % 2 ^ f : Nat) : Int) := by
  obtain ⟨a1, a2⟩ := pow_bd f (by omega)
  obtain ⟨b1, b2⟩ := pow_bd (u + f) (by omega)
  have hc : ((2 ^ (u + f) : Nat) : Int) = 2 ^ (u + f) := by push_cast; rfl
  have hc2 : ((2 ^ f : Nat) : Int) = 2 ^ f := by push_cast; rfl
  rw [wrap64_in (x := 2 ^ f) (by omega) (by omega), wrap64_in (x := 2 ^ f - 1) (by omega) (by omega)]
  have hiI : (i : Int) < 2 ^ (u + f) := by rw [← hc]; exact_mod_cast hi
  have h63 : (2 : Int) ^ 63 = 9223372036854775808 := by decide
  rw [bits_mask .i64 63 (by decide) wraps_i64' f (by omega) _ (by omega) (by rw [h63]; omega)]
  have e : (2 ^ (u + f) + (i : Int)) % 2 ^ f = ((i % 2 ^ f : Nat) : Int) := by
    rw [← hc, ← hc2, ← Int.natCast_add, ← Int.natCast_emod, Nat.pow_add, Nat.mul_add_mod_self_right]
  have hr : i % 2 ^ f < 2 ^ f := Nat.mod_lt _ (Nat.two_pow_pos f)
  rw [e, bits_join .i64 63 (by decide) wraps_i64' f _ _ (by omega) (by simp) (by omega) (by omega) (by rw [← hc2]; omega) (by omega)]
  rw [Int.natCast_add, hc2]
theorem low_num (a X q Y Z : Nat) (hX : 1 ≤ X) (hX2 : X ≤ 16384) (hY : 1 ≤ Y) (hY2 : Y ≤ 16384) (hq : q ≤ 16384) (hZ : q * (Y - 1) = Z) (hV : a + (X - 1 + Z) ≤ 16384) :
    wrap64 ((a : Int) + wrap64 (wrap64 (wrap64 (X : Int) - 1) + wrap64 (wrap64 (((X + q : Nat) : Int) - wrap64 (X : Int)) * wrap64 (wrap64 (Y : Int) - 1)))) = ((a + (X - 1 + Z) : Nat) : Int) := by
  have h1 : (q : Int) * ((Y : Int) - 1) = (Z : Int) := by rw [← hZ, Int.natCast_mul, Int.natCast_sub hY]; rfl
  rw [wrap64_in (x := (X : Int)) (by omega) (by omega), wrap64_in (x := (Y : Int)) (by omega) (by omega), wrap64_in (x := (X : Int) - 1) (by omega) (by omega), wrap64_in (x := (Y : Int) - 1) (by omega) (by omega)]
  rw [show ((X + q : Nat) : Int) - (X : Int) = (q : Int) by omega, wrap64_in (x := (q : Int)) (by omega) (by omega), h1, wrap64_in (x := (Z : Int)) (by omega) (by omega)]
  rw [wrap64_in (x := (X : Int) - 1 + (Z : Int)) (by omega) (by omega), wrap64_in (by omega) (by omega)]
  omega
/-- and where its part begins -/
theorem low_at {a u f i v : Nat} (hu : u ≤ 13) (hf : f ≤ 13) (huf : u + f ≤ 13) (hv : v ≤ 13) (hi : i < 2 ^ (u + f)) (hV : a + (2 ^ u - 1 + i / 2 ^ f * (2 ^ v - 1)) ≤ 16384) :
    wrap64 ((a : Int) + wrap64 (wrap64 (wrap64 (2 ^ u) - 1) + wrap64 (wrap64 ((2 ^ (u + f) + (i : Int)) / 2 ^ f - wrap64 (2 ^ u)) * wrap64 (wrap64 (2 ^ v) - 1)))) = ((a + (2 ^ u - 1 + i / 2 ^ f * (2 ^ v - 1)) : Nat) : Int) := by
  have hcu : ((2 ^ u : Nat) : Int) = 2 ^ u := by push_cast; rfl
  have hcv : ((2 ^ v : Nat) : Int) = 2 ^ v := by push_cast; rfl
  have hcf : ((2 ^ f : Nat) : Int) = 2 ^ f := by push_cast; rfl
  have hcs : ((2 ^ (u + f) : Nat) : Int) = 2 ^ (u + f) := by push_cast; rfl
  have e : (2 ^ (u + f) + (i : Int)) / 2 ^ f = ((2 ^ u + i / 2 ^ f : Nat) : Int) := by
    rw [← hcs, ← hcf, ← Int.natCast_add, ← Int.natCast_ediv, Nat.pow_add, Nat.add_comm, Nat.add_mul_div_right _ _ (Nat.two_pow_pos f), Nat.add_comm]
  have hq : i / 2 ^ f ≤ 16384 := Nat.le_trans (Nat.div_le_self _ _) (Nat.le_trans (Nat.le_of_lt hi) (Nat.pow_le_pow_right (by omega) (by omega : u + f ≤ 14)))
  rw [e, ← hcu, ← hcv]
  exact low_num a (2 ^ u) (i / 2 ^ f) (2 ^ v) _ (Nat.two_pow_pos u) (Nat.pow_le_pow_right (by omega) (by omega : u ≤ 14)) (Nat.two_pow_pos v) (Nat.pow_le_pow_right (by omega) (by omega : v ≤ 14)) hq rfl hV

/-- the place of a node, or none -/
def vpR (l n : Int) : Int := if ndE l n = 0 then (vpos l.toNat n.toNat : Nat) else 0

set_option maxHeartbeats 1000000 in
theorem Place_any (l n : Int) (w : World) :
    Calls Try.prog 76 #[.int .i64 l, .int .i64 n] w (Gives w (.tuple #[.int .i64 (vpR l n), .int .i64 (ndE l n)])) := by
  by_cases h : ndE l n = 0
  · obtain ⟨h1, h2, h3, h4⟩ := ndE_zero h
    have hp := (pow_bdI l h2).2
    obtain ⟨N, rfl⟩ := Int.eq_ofNat_of_zero_le (show 0 ≤ n by omega)
    obtain ⟨L, rfl⟩ := Int.eq_ofNat_of_zero_le (show 0 ≤ l by omega)
    have hN : N < 2 ^ L := by
      have e : ((2 ^ L : Nat) : Int) = 2 ^ L := by push_cast; rfl
      simp only [Int.toNat_natCast] at h4
      omega
    have hr : vpR L N = (vpos L N : Nat) := by rw [vpR, h]; rfl
    have hd : dpR L N = (N.log2 : Nat) := by rw [dpR, h]; rfl
    have hD := fun w => Depth_any L N w
    rw [hd, h] at hD
    rw [hr, h]
    obtain ⟨hv, -⟩ := vpos_lay (L := L) (n := N) (by omega) (by omega) hN
    have hv2 : vpos L N ≤ 16384 := by
      have : 2 ^ L ≤ 2 ^ 14 := Nat.pow_le_pow_right (by omega) (by omega)
      omega
    have hdL : N.log2 < L := log2_lt_of (by omega) hN
    obtain ⟨k1, k2⟩ := node_dj (n := N) (by omega)
    have hvp : pos L N.log2 (N - 2 ^ N.log2) = vpos L N := rfl
    have hNN : N = 2 ^ N.log2 + (N - 2 ^ N.log2) := by omega
    generalize vpos L N = V at *
    generalize N - 2 ^ N.log2 = J at *
    generalize hdd : N.log2 = d at *
    have HD := Lib.hid hD
    have HV := Lib.hid hvp
    have HN := Lib.hid hNN
    have HJ := Lib.hid k2
    clear hD h hp h4 hr hd hv hN hvp hNN hdd k1 k2
    go_enter Try.func76, Try.ntmps76
    go_wp2
    go_step3
    go_wp2_with fail
    refine (HD.out _).mono ?_
    rintro e w1 ⟨rfl, hb1⟩
    have HB := Lib.hid hb1
    clear hb1
    go_wp2
    go_step3
    go_wp2
    go_loopg [0, 1, 4, 6] L (fun g x y z t wr => ∃ (M e i a : Nat), M = g ∧ 1 ≤ M ∧ M ≤ 14 ∧ e < M ∧ Hid (i < 2 ^ e) ∧ x = .int .i64 M ∧ y = .int .i64 ((2 ^ e + i : Nat) : Int) ∧ t = .int .i64 e ∧ z = .int .i64 a ∧ Hid (a + pos M e i = V) ∧ Hid (Below w.heap.size w wr))
    case atStart => exact ⟨L, d, J, 0, rfl, by omega, by omega, hdL, HJ, rfl, by rw [← HN.out], rfl, rfl, Lib.hid (by rw [HV.out]; omega), HB⟩
    case round =>
      obtain ⟨M, e, i, a, rfl, m1, m2, m3, HI, rfl, rfl, rfl, rfl, HP, HB⟩ := hrel
      by_cases hM : M = 1
      · subst hM
        have hpv := HP.out
        rw [pos_one] at hpv
        obtain rfl : a = V := by omega
        go_wp2
        try rw [Exit.noGoto_ret]
        go_ret2
        exact ⟨rfl, HB.out⟩
      · have hM2 : 2 ≤ M := by omega
        obtain ⟨u, hu⟩ : ∃ u : Nat, (M : Int) / 2 = u := ⟨M / 2, by omega⟩
        obtain ⟨v, hv⟩ : ∃ v : Nat, ((M : Int) + 1) / 2 = v := ⟨(M + 1) / 2, by omega⟩
        have hS := fun w => Split_ok M (by omega) (by omega) w
        rw [hu, hv] at hS
        have HS := Lib.hid hS
        have hu2 : M / 2 = u := by omega
        have hv2 : M - M / 2 = v := by omega
        have hu7 : 1 ≤ u ∧ u ≤ 7 := by omega
        have hv7 : 1 ≤ v ∧ v ≤ 7 := by omega
        obtain ⟨u1, u7⟩ := hu7
        obtain ⟨v1, v7⟩ := hv7
        have huv : u < M ∧ v < M := by omega
        obtain ⟨huM, hvM⟩ := huv
        clear hS hu hv
        by_cases hlt : e < u
        · have hpu := pos_up i hM2 (by rw [hu2]; exact hlt)
          rw [hu2] at hpu
          have HP2 := Lib.hid (show a + pos u e i = V by rw [← hpu]; exact HP.out)
          clear hpu hu2 hv2 hM
          go_wp2_with fail
          refine (HS.out _).mono ?_
          rintro e' w' ⟨rfl, rfl⟩
          go_wp2
          go_roundg u
          case measure => omega
          case rel => exact ⟨u, e, i, a, rfl, by omega, by omega, hlt, HI, rfl, rfl, rfl, rfl, HP2, HB⟩
        · obtain ⟨f, hf⟩ : ∃ f, e = u + f := ⟨e - u, by omega⟩
          have hpl := pos_low i hM2 (by rw [hu2]; exact hlt)
          have hv3 : M - u = v := by omega
          have hef : e - u = f := by omega
          rw [hu2, hv3, hef] at hpl
          obtain ⟨q, hq⟩ : ∃ q, i / 2 ^ f = q := ⟨_, rfl⟩
          obtain ⟨r, hr⟩ : ∃ r, i % 2 ^ f = r := ⟨_, rfl⟩
          rw [hq, hr] at hpl
          go_wp2_with fail
          refine (HS.out _).mono ?_
          rintro e' w' ⟨rfl, rfl⟩
          go_wp2
          go_quiet (fail)
          go_wp2
          go_quiet (fail)
          go_wp2
          go_roundg v
          case measure => omega
          case rel =>
            have hi := HI.out
            rw [hf] at hi
            have hpv := HP.out
            rw [hpl] at hpv
            refine ⟨v, f, r, a + (2 ^ u - 1 + q * (2 ^ v - 1)), rfl, by omega, by omega, by omega, Lib.hid (by rw [← hr]; exact Nat.mod_lt _ (Nat.two_pow_pos f)), rfl, ?_, ?_, ?_, Lib.hid (by rw [← hpv]; omega), Lib.hid (below_drewN (below_drewN HB.out _) _)⟩
            · rw [← hr, ← low_node (by omega) (by omega) (by omega) hi]
            · congr 1; omega
            · rw [← hq, ← low_at (by omega) (by omega) (by omega) (by omega) hi (by rw [hq]; omega)]
  · have h2 := ndE_no h
    have hr : vpR l n = 0 := by rw [vpR, h2]; rfl
    have hd : dpR l n = 0 := by rw [dpR, h2]; rfl
    have hD := fun w => Depth_any l n w
    rw [hd, h2] at hD
    rw [hr, h2]
    have HD := Lib.hid hD
    clear hD h h2 hr hd
    go_enter Try.func76, Try.ntmps76
    go_wp2
    go_step3
    go_wp2_with fail
    refine (HD.out _).mono ?_
    rintro e w1 ⟨rfl, hb1⟩
    go_wp2
    try rw [Exit.noGoto_ret]
    go_ret2
    exact ⟨rfl, hb1⟩
end Go.Proofs.Ytbmibaafkgleeaa

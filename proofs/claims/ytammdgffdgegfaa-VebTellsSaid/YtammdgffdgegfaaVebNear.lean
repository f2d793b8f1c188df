/- Walks of veb.Near, and of the reference's Near. -/
import Derived.Test.YtammdgffdgegfaaVebRuns
namespace Go.Proofs.Ytammdgffdgegfaa
open Go.RowKit Go.Shelf Go.Maps
set_option linter.unusedVariables false
set_option linter.unusedSimpArgs false

theorem nrE_ok {l n run : Int} (h : ndE l n = 0) (hr : 1 ≤ run) : nrE l n run = 0 := by simp [nrE, h, hr]
theorem Near_any (l n run : Int) (w : World) :
    Calls Try.prog 21 #[.int .i64 l, .int .i64 n, .int .i64 run] w (Gives w (.tuple #[.int .i64 (nrR l n run), .int .i64 (nrE l n run)])) := by
  by_cases h : ndE l n = 0
  · obtain ⟨h1, h2, h3, h4⟩ := ndE_zero h
    by_cases hr : 1 ≤ run
    · obtain ⟨N, rfl⟩ := Int.eq_ofNat_of_zero_le (show 0 ≤ n by omega)
      obtain ⟨L, rfl⟩ := Int.eq_ofNat_of_zero_le (show 0 ≤ l by omega)
      rw [nrR, nrE_ok h hr]
      exact Near_ok L N run h hr w
    · have he : nrE l n run = 2 := by simp [nrE, hr]
      have hn : nrR l n run = 0 := by rw [nrR, he]; rfl
      have P := fun w => Path_any l n w
      rw [h] at P
      rw [he, hn]
      have P := Lib.hid P
      clear h h1 h2 h3 h4 he hn
      go_enter Try.func21, Try.ntmps21
      go_wp2_with fail
      refine (P.out _).mono ?_
      rintro e w1 ⟨v1, rfl, ho1, hb1⟩
      clear ho1
      go_wp2
      go_ret2
      exact ⟨rfl, hb1⟩
  · have h2 := ndE_no h
    have he : nrE l n run = 2 := by simp [nrE, h]
    have hn : nrR l n run = 0 := by rw [nrR, he]; rfl
    have P := fun w => Path_any l n w
    rw [h2] at P
    rw [he, hn]
    have P := Lib.hid P
    clear h h2 he hn
    go_enter Try.func21, Try.ntmps21
    go_wp2_with fail
    refine (P.out _).mono ?_
    rintro e w1 ⟨v1, rfl, ho1, hb1⟩
    clear ho1
    go_wp2
    go_ret2
    exact ⟨rfl, hb1⟩

set_option maxHeartbeats 4000000 in
set_option maxRecDepth 100000 in
theorem Near17_ok (L N : Nat) (run : Int) (h : ndE L N = 0) (hr : 1 ≤ run) (w : World) :
    Calls Try.prog 22 #[.int .i64 L, .int .i64 N, .int .i64 run] w (Gives w (.tuple #[.int .i64 (nearN (runsOf L N run) (N.log2 + 1) : Nat), .int .i64 0])) := by
  obtain ⟨h1, h2, h3, h4⟩ := ndE_zero h
  obtain ⟨hp1, hp2⟩ := pow_bdI L h2
  have hN14 : N.log2 < 14 := log2_lt_of (by omega) (by omega)
  have hx : ptR L N = ints (pth N) := by rw [ptR, h]; rfl
  have P := fun w => Path16_any L N w
  rw [hx, h] at P
  have hlen : (ints (pth N)).length = N.log2 + 1 := by rw [ints_length, pth_length]
  have hc : ((2 ^ L : Nat) : Int) = 2 ^ L := by push_cast; rfl
  simp only [Int.toNat_natCast] at h4 hp1 hp2
  have hpl : (plc L).length = 2 ^ L - 1 := by rw [plc, fillTo_length]
  have hpl2 : (plc L).length ≤ 16384 := by omega
  have HQ := Lib.hid (fun w => Places17_ok L _ rfl (by omega) (by omega) w)
  have V : ∀ k x, k < (ints (pth N)).length → (ints (pth N)).getD k 0 = x → ∃ j y : Nat, x - 1 = (j : Int) ∧ j < (plc L).length ∧ (plc L).getD j 0 = y ∧ y ≤ 16384 ∧ (runsOf L N run).getD k 0 = (y : Int) / run ∧ x ≤ 16384 ∧ 1 ≤ x := by
    intro k x hk hgx
    have e1 := pth_get N (by omega) (N.log2 - k) (by omega)
    rw [show N.log2 - (N.log2 - k) = k by omega] at e1
    rw [getD_ints] at hgx
    have hle : (pth N).getD k 0 ≤ N := by rw [e1]; exact Nat.div_le_self _ _
    have hge : 1 ≤ (pth N).getD k 0 := by rw [e1]; exact (half_pos (by omega)).1 (by omega)
    have hv := runsOf_get (L := L) (n := N) (k := k) (run := run) (by omega)
    have hg := plc_get (L := L) (n := (pth N).getD k 0) (by omega) hge (by omega)
    have hvp := (vpos_lay (L := L) (n := (pth N).getD k 0) (by omega) hge (by omega)).1
    refine ⟨(pth N).getD k 0 - 1, vpos L ((pth N).getD k 0), by omega, by omega, hg, by omega, hv, by omega, by omega⟩
  have hlv := runsOf_length L N run
  generalize ints (pth N) = xs at *
  generalize runsOf L N run = vs at *
  generalize N.log2 = d at *
  generalize plc L = ps at *
  have P := Lib.hid P
  have V := Lib.hid V
  have HL := Lib.hid (And.intro hlen hlv)
  have hl3 : xs.length ≤ 14 := by omega
  clear h hx h4 hp1 hp2 hlen hlv hc hpl
  go_enter Try.func22, Try.ntmps22
  go_wp2_with fail
  refine (P.out _).mono ?_
  rintro e w1 ⟨v1, rfl, ho1, hb1⟩
  have hz1 := hb1.size
  go_wp2_with fail
  refine (HQ.out _).mono ?_
  rintro e w2 ⟨v2, rfl, ho2, hb2⟩
  have ho1 := owns_below ho1 hb2
  obtain ⟨a1, c1, rfl, hi1, -⟩ := ints_of_owns ho1
  obtain ⟨a2, c2, rfl, hi2, -⟩ := ints_of_owns ho2
  have HI1 := Lib.hid hi1
  have HI2 := Lib.hid hi2
  have HB := Lib.hid (hb1.trans (hb2.mono hz1))
  clear ho1 ho2 hi1 hi2 hb1 hb2
  go_wp2
  go_loopg [11, 12] xs.length (fun g m i wr => ∃ (k n : Nat), k + g = xs.length ∧ i = .int .i64 k ∧ m = .int .i64 (nearN vs k) ∧ wr = w2.drewN n)
  case atStart => exact ⟨0, 0, by omega, rfl, rfl, rfl⟩
  case round =>
    obtain ⟨k, n, hk, rfl, rfl, rfl⟩ := hrel
    obtain ⟨go, hgo⟩ : ∃ go, go = gk := ⟨_, rfl⟩
    have hnl := nearN_le vs k
    by_cases hlt : k < xs.length
    · obtain ⟨b1, o1, x, rfl, hxk, hc, _⟩ := HI1.out.get hlt
      obtain ⟨j, y, e1, hj, hjy, hy, hvk, hx1, hx2⟩ := V.out k x hlt hxk.out
      obtain ⟨b2, o2, y', rfl, hyj, hc2, _⟩ := HI2.out.get hj
      have hyy := hyj.out
      rw [hjy] at hyy
      subst hyy
      have HV := Lib.hid hvk
      clear hvk hjy hyj
      go_wp2
      go_loopg [13, 14] k (fun g t q wr => ∃ (p n : Nat), p + g = k ∧ q = .int .i64 p ∧ t = .bool ((vs.take p).contains (vs.getD k 0)) ∧ wr = w2.drewN n)
      case atStart => exact ⟨0, n, by omega, rfl, by simp, rfl⟩
      case round =>
        obtain ⟨p, n', hp, rfl, rfl, rfl⟩ := hrel
        by_cases hpk : p < k
        · have hpx : p < xs.length := by omega
          obtain ⟨b1', o1', x', e', hxk', hc', _⟩ := HI1.out.get hpx
          cases e'
          obtain ⟨j', z, f1, hj', hjz, hz, hvp, hx1', hx2'⟩ := V.out p x' hpx hxk'.out
          obtain ⟨b2', o2', z', e', hzj, hc2', _⟩ := HI2.out.get hj'
          cases e'
          have hzz := hzj.out
          rw [hjz] at hzz
          subst hzz
          have HVP := Lib.hid hvp
          have hts := take_contains_succ vs p (by have := HL.out; omega) (vs.getD k 0)
          have HTS := Lib.hid hts
          clear hvp hjz hzj hts
          cases hcon : (vs.take p).contains (vs.getD k 0) with
          | true =>
            have HC := Lib.hid hcon
            clear hcon
            go_wp2
            go_quiet (fail)
            go_wp2
            go_roundg (gk - 1)
            case measure => omega
            case rel => exact ⟨p + 1, _, by omega, by go_num, by rw [HTS.out, HC.out]; rfl, by first | rfl | exact World.drewN_drewN _ _ _⟩
          | false =>
            have HC := Lib.hid hcon
            clear hcon
            have g0 : (0 : Int) ≤ (j : Int) := by omega
            have g1 : (j : Int) < (ps.length : Int) := by omega
            have g2 : (0 : Int) ≤ (j' : Int) := by omega
            have g3 : (j' : Int) < (ps.length : Int) := by omega
            go_wp2
            go_quiet (fail)
            go_wp2
            go_roundg (gk - 1)
            case measure => omega
            case rel =>
              refine ⟨p + 1, _, by omega, by go_num, ?_, by first | rfl | exact World.drewN_drewN _ _ _⟩
              have q1 : 0 ≤ (y : Int) / run := Int.ediv_nonneg (by omega) (by omega)
              have q2 : (y : Int) / run ≤ 16384 := Int.le_trans (Int.ediv_le_self _ (by omega)) (by omega)
              have q3 : 0 ≤ (z : Int) / run := Int.ediv_nonneg (by omega) (by omega)
              have q4 : (z : Int) / run ≤ 16384 := Int.le_trans (Int.ediv_le_self _ (by omega)) (by omega)
              rw [HTS.out, HC.out, HV.out, HVP.out, wrap64_in (by omega) (by omega), wrap64_in (by omega) (by omega), Bool.false_or]
              congr 1
              rw [Bool.eq_iff_iff, beq_iff_eq, beq_iff_eq]
              exact ⟨fun h => h.symm, fun h => h.symm⟩
        · obtain rfl : p = k := by omega
          cases hcon : (vs.take p).contains (vs.getD p 0) with
          | true =>
            have HN := Lib.hid (show nearN vs (p + 1) = nearN vs p by rw [nearN, if_pos hcon]; rfl)
            clear hcon
            go_wp2
            go_roundg (go - 1)
            case measure => omega
            case rel => exact ⟨p + 1, _, by omega, by go_num, by rw [HN.out], rfl⟩
          | false =>
            have HN := Lib.hid (show nearN vs (p + 1) = nearN vs p + 1 by rw [nearN, if_neg (by rw [hcon]; decide)])
            clear hcon
            go_wp2
            go_roundg (go - 1)
            case measure => omega
            case rel => exact ⟨p + 1, _, by omega, by go_num, by rw [HN.out]; go_num, rfl⟩
    · go_wp2
      go_ret2
      have : k = d + 1 := by have := HL.out; omega
      exact ⟨by rw [this]; rfl, below_drewN HB.out _⟩

theorem Near17_any (l n run : Int) (w : World) :
    Calls Try.prog 22 #[.int .i64 l, .int .i64 n, .int .i64 run] w (Gives w (.tuple #[.int .i64 (nrR l n run), .int .i64 (nrE l n run)])) := by
  by_cases h : ndE l n = 0
  · obtain ⟨h1, h2, h3, h4⟩ := ndE_zero h
    by_cases hr : 1 ≤ run
    · obtain ⟨N, rfl⟩ := Int.eq_ofNat_of_zero_le (show 0 ≤ n by omega)
      obtain ⟨L, rfl⟩ := Int.eq_ofNat_of_zero_le (show 0 ≤ l by omega)
      rw [nrR, nrE_ok h hr]
      exact Near17_ok L N run h hr w
    · have he : nrE l n run = 2 := by simp [nrE, hr]
      have hn : nrR l n run = 0 := by rw [nrR, he]; rfl
      have P := fun w => Path16_any l n w
      rw [h] at P
      rw [he, hn]
      have P := Lib.hid P
      clear h h1 h2 h3 h4 he hn
      go_enter Try.func22, Try.ntmps22
      go_wp2_with fail
      refine (P.out _).mono ?_
      rintro e w1 ⟨v1, rfl, ho1, hb1⟩
      clear ho1
      go_wp2
      go_ret2
      exact ⟨rfl, hb1⟩
  · have h2 := ndE_no h
    have he : nrE l n run = 2 := by simp [nrE, h]
    have hn : nrR l n run = 0 := by rw [nrR, he]; rfl
    have P := fun w => Path16_any l n w
    rw [h2] at P
    rw [he, hn]
    have P := Lib.hid P
    clear h h2 he hn
    go_enter Try.func22, Try.ntmps22
    go_wp2_with fail
    refine (P.out _).mono ?_
    rintro e w1 ⟨v1, rfl, ho1, hb1⟩
    clear ho1
    go_wp2
    go_ret2
    exact ⟨rfl, hb1⟩
end Go.Proofs.Ytammdgffdgegfaa

/- Merged: Of04, May04. -/
import Derived.Test.YtjhpblejlchhjaaGreatPrsAll
import Derived.Test.YtjhpblejlchhjaaGreatSlRef
namespace Go.Proofs.YtjhpblejlchhjaaGreat
set_option maxRecDepth 100000
set_option maxHeartbeats 4000000
set_option linter.unusedVariables false
set_option linter.unusedSimpArgs false
section
open Go.RowKit Go.Shelf
attribute [local go_sem] Oper.semAt_some

def Fact.laid {T : TypeId} (base : Nat) (t : TypeId) (he : t ≠ T) (vs : Array Value) : Fact T :=
  ⟨fun v w => ∃ b, v = .slice (some ⟨b, 0, none⟩) 1 1 ∧ base ≤ b ∧ w.heap[b]? = some (.cells vs t), fun _ _ _ h ⟨b, e, hb, hh⟩ => ⟨b, e, hb, h.same _ _ hh (fun cs fr e => by cases e; exact he rfl)⟩⟩
theorem plsW_getD {ws : List Int} {a b k : Nat} (h : k < (plsW ws a b).length) : a ≤ (plsW ws a b).getD k 0 ∧ (plsW ws a b).getD k 0 < b := by
  rw [List.getD_eq_getElem?_getD, List.getElem?_eq_getElem h]
  exact plsW_mem (List.getElem_mem h)
end

section
open Go.RowKit

def Fact.len {T : TypeId} (n : Nat) : Fact T := ⟨fun v _ => ∃ a c, v = .slice a n c, fun _ _ _ _ h => h⟩

theorem slMay_in (c : SlC) (a : SlA) (hh : slHead c = true) (w : World) (hin : SlIn w c a) :
    Calls Tryz.prog 91 #[slV c a] w (AnsB w (.bool (slMay c))) := by
  obtain ⟨S, M, hS, hS4, hS64, hnk, hnv, hnc, hM1, hSM, hM2, hnw, -, -, -⟩ := slHead_facts hh
  have he := slMay_eq c hh
  simp only [slHead, Bool.and_eq_true, decide_eq_true_eq] at hh
  obtain ⟨⟨⟨hf, -⟩, hwm⟩, -⟩ := hh
  rw [hnk] at hf hwm
  obtain ⟨R, hR⟩ : ∃ R, slMay c = R := ⟨_, rfl⟩
  have hR2 : R = ((List.range c.ks.length).all (clrAt c.ws c.ks c.vs) && (List.range c.cs.length).all (cntAt c.seg c.ws c.cs)) := by rw [← hR, he]
  rw [hR]
  clear he hR
  obtain ⟨seg, ws, ks, vs, cs, laid⟩ := c
  obtain ⟨wa, ka, va, ca, wc, kc, vc, cc⟩ := a
  obtain ⟨hw, hk, hv, hcn, hu⟩ := hin
  dsimp only at *
  subst hS
  have HW := Lib.hid hw
  have HK := Lib.hid hk
  have HV := Lib.hid hv
  have HN := Lib.hid hcn
  have HU := Lib.hid hu
  obtain ⟨n, hn⟩ : ∃ n, S * M = n := ⟨_, rfl⟩
  rw [hn] at hnk hnv hnw hf hwm hSM
  have HLW := Lib.hid hnw
  have F1 := Lib.hid (fun w => Fits04_ok S n w)
  rw [hf] at F1
  have O1 := Lib.hid (fun w hw => May02_ok wa wc ws hu n hSM (by omega) w hw)
  have IS := Lib.hid (fun i hi hi2 w hw => Is02_ok wa wc ws hu i hi hi2 w hw)
  have C1 := Lib.hid (fun p1 p2 h1 h2 h3 w hw => Places02_ok wa wc ws hu p1 p2 h1 h2 h3 w hw)
  rw [hwm] at O1
  have hqI : (n : Int) / (S : Int) = (M : Int) := by rw [← hn]; push_cast; exact Int.mul_ediv_cancel_left _ (by omega)
  have hqM : ((M : Int) != wrap64 ((n : Int) / (S : Int))) = false := by rw [hqI, IntWalk.wrap64_in _ (by omega)]; simp
  have htd : (n : Int).tdiv S = (n : Int) / S := Int.tdiv_eq_ediv_of_nonneg (by omega)
  have hS0 : ((S : Int) == 0) = false := by simp; omega
  have HRR := Lib.hid hR2
  have HKL := Lib.hid hnk
  have HVL := Lib.hid hnv
  have HCL := Lib.hid hnc
  have HNM := Lib.hid hn
  obtain ⟨lw, hlw⟩ : ∃ lw, ws.length = lw := ⟨_, rfl⟩
  dsimp only [slV]
  rw [hnk, hnv, hnc, hlw]
  rw [hlw] at O1 C1 IS
  have HLL := Lib.hid hlw
  clear hw hk hv hcn hu hf hwm hR2 hnk hnv hnc hnw hlw hqI hn
  go_enter Tryz.func91, Tryz.ntmps91
  go_wp2
  have d0 : (w.alloc (.cells #[.int .i64 (S : Int), .slice wa lw wc, .slice ka n kc, .slice va n vc, .slice ca M cc, .int .u64 laid] 29)).cell? ⟨w.heap.size, 0, none⟩ = some (.int .i64 (S : Int)) := by (exact xcw)
  have d1 : (w.alloc (.cells #[.int .i64 (S : Int), .slice wa lw wc, .slice ka n kc, .slice va n vc, .slice ca M cc, .int .u64 laid] 29)).cell? ⟨w.heap.size, 1, none⟩ = some (.slice wa lw wc) := by (exact xcw)
  have d2 : (w.alloc (.cells #[.int .i64 (S : Int), .slice wa lw wc, .slice ka n kc, .slice va n vc, .slice ca M cc, .int .u64 laid] 29)).cell? ⟨w.heap.size, 2, none⟩ = some (.slice ka n kc) := by (exact xcw)
  have d3 : (w.alloc (.cells #[.int .i64 (S : Int), .slice wa lw wc, .slice ka n kc, .slice va n vc, .slice ca M cc, .int .u64 laid] 29)).cell? ⟨w.heap.size, 3, none⟩ = some (.slice va n vc) := by (exact xcw)
  have d4 : (w.alloc (.cells #[.int .i64 (S : Int), .slice wa lw wc, .slice ka n kc, .slice va n vc, .slice ca M cc, .int .u64 laid] 29)).cell? ⟨w.heap.size, 4, none⟩ = some (.slice ca M cc) := by (exact xcw)
  have HB0 : Hid (Below w.heap.size w (w.alloc (.cells #[.int .i64 (S : Int), .slice wa lw wc, .slice ka n kc, .slice va n vc, .slice ca M cc, .int .u64 laid] 29))) := Lib.hid ((Below.refl _ _).alloc (Nat.le_refl _) _)
  have hz0 : w.heap.size < (w.alloc (.cells #[.int .i64 (S : Int), .slice wa lw wc, .slice ka n kc, .slice va n vc, .slice ca M cc, .int .u64 laid] 29)).heap.size := by simp
  generalize (w.alloc (.cells #[.int .i64 (S : Int), .slice wa lw wc, .slice ka n kc, .slice va n vc, .slice ca M cc, .int .u64 laid] 29)) = w1 at *
  have Q1 := Lib.hid (fun q => Calls.quiet_of_same ((F1.out (w1.drewN q)).mono fun _ _ h => ⟨h.1, h.2.symm⟩))
  have Q2 := Lib.hid (fun q => Calls.quiet_of_same ((O1.out (w1.drewN q) (HW.out.below (below_drewN HB0.out q))).mono fun _ _ h => ⟨h.1, h.2.symm⟩))
  go_quiet (first | exact Q1.out _ | exact Q2.out _)
  have HB1 := Lib.hid (below_drewN HB0.out nq)
  replace d0 : (w1.drewN nq).cell? ⟨w.heap.size, 0, none⟩ = some (.int .i64 (S : Int)) := d0
  replace d1 : (w1.drewN nq).cell? ⟨w.heap.size, 1, none⟩ = some (.slice wa lw wc) := d1
  replace d2 : (w1.drewN nq).cell? ⟨w.heap.size, 2, none⟩ = some (.slice ka n kc) := d2
  replace d3 : (w1.drewN nq).cell? ⟨w.heap.size, 3, none⟩ = some (.slice va n vc) := d3
  replace d4 : (w1.drewN nq).cell? ⟨w.heap.size, 4, none⟩ = some (.slice ca M cc) := d4
  replace hz0 : w.heap.size < (w1.drewN nq).heap.size := by simpa using hz0
  generalize w1.drewN nq = w2 at *
  clear Q1 Q2 HB0
  go_wp2
  go_loopg [4] n (fun gk iv wr => ∃ i : Nat, i + gk = n ∧ iv = .int .i64 i ∧ wr = w2 ∧ Hid (∀ j, j < i → clrAt ws ks vs j = true))
  case atStart => exact ⟨0, by omega, rfl, rfl, Lib.hid (fun j h => by omega)⟩
  case round =>
    obtain ⟨i, hi, rfl, rfl, HA⟩ := hrel
    by_cases hlt : i < n
    · have hw64 : i / 64 < lw := by have := HLL.out; have := HLW.out; omega
      have B := Lib.hid (IS.out i hw64 (by omega) wr (HW.out.below HB1.out))
      obtain ⟨bk, ok, kx, rfl, hkx, ck, -⟩ := (HK.out.below HB1.out).get (i := i) (by rw [HKL.out]; exact hlt)
      obtain ⟨bv, ov, vx, rfl, hvx, cv, -⟩ := (HV.out.below HB1.out).get (i := i) (by rw [HVL.out]; exact hlt)
      have hclr : clrAt ws ks vs i = (bitW ws i || (kx == 0 && vx == 0)) := by unfold clrAt; rw [hkx.out, hvx.out]
      generalize bitW ws i = bt at *
      clear hkx hvx
      cases bt with
      | true =>
        have HC := Lib.hid hclr
        clear hclr
        go_wp2_with (go_at_call 101; refine B.out.mono ?_; rintro e w' ⟨rfl, rfl⟩)
        go_roundg (gk - 1)
        case measure => omega
        case rel =>
          refine ⟨i + 1, by omega, by go_num, rfl, Lib.hid (fun j hj => ?_)⟩
          by_cases e : j = i
          · rw [e, HC.out]; rfl
          · exact HA.out j (by omega)
      | false =>
        by_cases hk0 : kx = 0
        · by_cases hv0 : vx = 0
          · subst hk0 hv0
            have HC := Lib.hid hclr
            clear hclr
            go_wp2_with (go_at_call 101; refine B.out.mono ?_; rintro e w' ⟨rfl, rfl⟩)
            go_roundg (gk - 1)
            case measure => omega
            case rel =>
              refine ⟨i + 1, by omega, by go_num, rfl, Lib.hid (fun j hj => ?_)⟩
              by_cases e : j = i
              · rw [e, HC.out]; rfl
              · exact HA.out j (by omega)
          · subst hk0
            have hv1 : (vx != 0) = true := by simpa using hv0
            have hR8 : R = false := by rw [HRR.out, HKL.out, all_not hlt (by rw [hclr]; simp [hv0]), Bool.false_and]
            subst hR8
            clear hclr
            go_wp2_with (go_at_call 101; refine B.out.mono ?_; rintro e w' ⟨rfl, rfl⟩)
            go_ret
            exact ⟨rfl, HB1.out⟩
        · have hk1 : (kx != 0) = true := by simpa using hk0
          have hR8 : R = false := by rw [HRR.out, HKL.out, all_not hlt (by rw [hclr]; simp [hk0]), Bool.false_and]
          subst hR8
          clear hclr
          go_wp2_with (go_at_call 101; refine B.out.mono ?_; rintro e w' ⟨rfl, rfl⟩)
          go_ret
          exact ⟨rfl, HB1.out⟩
    · have hin : n = i := by omega
      subst hin
      have HAL := Lib.hid (all_upto.2 (fun j (hj : j < n) => HA.out j (by omega)))
      clear HA
      go_wp2
      go_loopg [5] M (fun gk iv wr => ∃ k : Nat, k + gk = M ∧ iv = .int .i64 k ∧ wr.cell? ⟨w.heap.size, 0, none⟩ = some (.int .i64 (S : Int)) ∧ wr.cell? ⟨w.heap.size, 1, none⟩ = some (.slice wa lw wc) ∧ wr.cell? ⟨w.heap.size, 4, none⟩ = some (.slice ca M cc) ∧ Hid (Below w.heap.size w wr) ∧ w.heap.size < wr.heap.size ∧ Hid (∀ j, j < k → cntAt S ws cs j = true))
      case atStart => exact ⟨0, by omega, rfl, d0, d1, d4, HB1, hz0, Lib.hid (fun j h => by omega)⟩
      case round =>
        obtain ⟨k, hk, rfl, cE0, cE1, cE4, HB, hz, HA2⟩ := hrel
        by_cases hlt2 : k < M
        · obtain ⟨bn, on, y, rfl, hy, cy, zbn⟩ := (HN.out.below HB.out).get (i := k) (by rw [HCL.out]; exact hlt2)
          have hca : cntAt S ws cs k = (y == (cntW ws (k * S) ((k + 1) * S) : Int)) := by unfold cntAt; rw [hy.out, Int.toNat_natCast]
          have hk1 : (k : Int) * (S : Int) = ((k * S : Nat) : Int) := by push_cast; rfl
          have hk2 : ((k : Int) + 1) * (S : Int) = (((k + 1) * S : Nat) : Int) := by push_cast; rfl
          have hkb1 : k * S ≤ n := by rw [← HNM.out, Nat.mul_comm S]; exact Nat.mul_le_mul_right _ (by omega)
          have hkb2 : (k + 1) * S ≤ n := by rw [← HNM.out, Nat.mul_comm S]; exact Nat.mul_le_mul_right _ (by omega)
          have hzl : (ints (plsW ws (k * S) ((k + 1) * S))).length = cntW ws (k * S) ((k + 1) * S) := by rw [ints_length, plsW_length]
          have HPP := Lib.hid (fun w' (hb : Below wr.heap.size wr w') => C1.out (k * S) ((k + 1) * S) (by have := HLL.out; have := HLW.out; omega) (by omega) (by omega) w' (HW.out.below (below_via hb HB.out (by omega))))
          generalize cntW ws (k * S) ((k + 1) * S) = z at *
          generalize k * S = p1 at *
          generalize (k + 1) * S = p2 at *
          have hw1 : IntKind.i64.wrap ((k : Int) + 1) = (k : Int) + 1 := IntWalk.i64_in _ (by omega)
          have hw2 : IntKind.i64.wrap (p1 : Int) = (p1 : Int) := IntWalk.i64_in _ (by omega)
          have hw3 : IntKind.i64.wrap (p2 : Int) = (p2 : Int) := IntWalk.i64_in _ (by omega)
          have HZL := Lib.hid hzl
          have HCA := Lib.hid hca
          have HK2 := Lib.hid hk
          clear hy hzl hca hk
          go_wp2
          refine wp_region_facts 19 (by kernel_rfl) (N := 90) rfl (by kernel_rfl) (by kernel_rfl) (by decide) (fun w' => Below wr.heap.size wr w') (Ext 29) (factAt [
            .is (.pointer (some ⟨w.heap.size, 4, none⟩)), .is (.slice (some ⟨bn, on, none⟩) M cc), .is (.int .i64 k), .is (.pointer (some ⟨bn, on + k, none⟩)), .is (.int .i64 y), .is (.pointer (some ⟨w.heap.size, 1, none⟩)), .is (.slice wa lw wc), .is (.int .i64 k), .is (.pointer (some ⟨w.heap.size, 0, none⟩)), .is (.int .i64 S), .is (.int .i64 p1), .is (.int .i64 k), .is (.int .i64 ((k : Int) + 1)), .is (.pointer (some ⟨w.heap.size, 0, none⟩)), .is (.int .i64 S), .is (.int .i64 p2), .len z, .is (.int .i64 z), .is (.bool ((y : Int) != (z : Int)))]) (factAt_stays _) (Below.refl _ _).drew ?steps ?fin
          case steps =>
            refine ⟨?o0, ?o1, ?o2, ?o3, ?o4, ?o5, ?o6, ?o7, ?o8, ?o9, ?o10, ?o11, ?o12, ?o13, ?o14, ?o15, ?o16, ?o17, ?o18, trivial⟩
            case o0 =>
              intro u a w' ev hJ hd K hK
              have e1 : a.tmps.getD 1 undef = .pointer (some ⟨w.heap.size, 0, none⟩) := ev 1 (by decide)
              have HK := Lib.hid hK
              clear hK ev hd
              go_simp
              exact HK.out _ _ (fun h => by cases h) hJ rfl (Ext.refl _ _)
            case o1 =>
              intro u a w' ev hJ hd K hK
              have e71 : a.tmps.getD 71 undef = .pointer (some ⟨w.heap.size, 4, none⟩) := (ev 71 (by decide)).trans (hd 0 _ (by kernel_rfl) rfl)
              have g0 := (hJ.cell (p := ⟨w.heap.size, 4, none⟩) (by dsimp only; omega)).trans cE4
              have HK := Lib.hid hK
              clear hK ev hd
              go_simp
              exact HK.out _ _ (fun h => by cases h) hJ rfl (Ext.refl _ _)
            case o2 =>
              intro u a w' ev hJ hd K hK
              have e5 : a.tmps.getD 5 undef = .int .i64 k := ev 5 (by decide)
              have HK := Lib.hid hK
              clear hK ev hd
              go_simp
              exact HK.out _ _ (fun h => by cases h) hJ rfl (Ext.refl _ _)
            case o3 =>
              intro u a w' ev hJ hd K hK
              have e72 : a.tmps.getD 72 undef = .slice (some ⟨bn, on, none⟩) M cc := (ev 72 (by decide)).trans (hd 1 _ (by kernel_rfl) rfl)
              have e73 : a.tmps.getD 73 undef = .int .i64 k := (ev 73 (by decide)).trans (hd 2 _ (by kernel_rfl) rfl)
              have HK := Lib.hid hK
              clear hK ev hd
              go_simp
              exact HK.out _ _ (fun h => by cases h) hJ rfl (Ext.refl _ _)
            case o4 =>
              intro u a w' ev hJ hd K hK
              have e74 : a.tmps.getD 74 undef = .pointer (some ⟨bn, on + k, none⟩) := (ev 74 (by decide)).trans (hd 3 _ (by kernel_rfl) rfl)
              have g0 := (hJ.cell (p := ⟨bn, on + k, none⟩) (by dsimp only; omega)).trans cy
              have HK := Lib.hid hK
              clear hK ev hd
              go_simp
              exact HK.out _ _ (fun h => by cases h) hJ rfl (Ext.refl _ _)
            case o5 =>
              intro u a w' ev hJ hd K hK
              have e1 : a.tmps.getD 1 undef = .pointer (some ⟨w.heap.size, 0, none⟩) := ev 1 (by decide)
              have HK := Lib.hid hK
              clear hK ev hd
              go_simp
              exact HK.out _ _ (fun h => by cases h) hJ rfl (Ext.refl _ _)
            case o6 =>
              intro u a w' ev hJ hd K hK
              have e76 : a.tmps.getD 76 undef = .pointer (some ⟨w.heap.size, 1, none⟩) := (ev 76 (by decide)).trans (hd 5 _ (by kernel_rfl) rfl)
              have g0 := (hJ.cell (p := ⟨w.heap.size, 1, none⟩) (by dsimp only; omega)).trans cE1
              have HK := Lib.hid hK
              clear hK ev hd
              go_simp
              exact HK.out _ _ (fun h => by cases h) hJ rfl (Ext.refl _ _)
            case o7 =>
              intro u a w' ev hJ hd K hK
              have e5 : a.tmps.getD 5 undef = .int .i64 k := ev 5 (by decide)
              have HK := Lib.hid hK
              clear hK ev hd
              go_simp
              exact HK.out _ _ (fun h => by cases h) hJ rfl (Ext.refl _ _)
            case o8 =>
              intro u a w' ev hJ hd K hK
              have e1 : a.tmps.getD 1 undef = .pointer (some ⟨w.heap.size, 0, none⟩) := ev 1 (by decide)
              have HK := Lib.hid hK
              clear hK ev hd
              go_simp
              exact HK.out _ _ (fun h => by cases h) hJ rfl (Ext.refl _ _)
            case o9 =>
              intro u a w' ev hJ hd K hK
              have e79 : a.tmps.getD 79 undef = .pointer (some ⟨w.heap.size, 0, none⟩) := (ev 79 (by decide)).trans (hd 8 _ (by kernel_rfl) rfl)
              have g0 := (hJ.cell (p := ⟨w.heap.size, 0, none⟩) (by dsimp only; omega)).trans cE0
              have HK := Lib.hid hK
              clear hK ev hd
              go_simp
              exact HK.out _ _ (fun h => by cases h) hJ rfl (Ext.refl _ _)
            case o10 =>
              intro u a w' ev hJ hd K hK
              have e78 : a.tmps.getD 78 undef = .int .i64 k := (ev 78 (by decide)).trans (hd 7 _ (by kernel_rfl) rfl)
              have e80 : a.tmps.getD 80 undef = .int .i64 S := (ev 80 (by decide)).trans (hd 9 _ (by kernel_rfl) rfl)
              have HK := Lib.hid hK
              clear hK ev hd
              go_simp
              exact HK.out _ _ (fun h => by cases h) hJ rfl (Ext.refl _ _)
            case o11 =>
              intro u a w' ev hJ hd K hK
              have e5 : a.tmps.getD 5 undef = .int .i64 k := ev 5 (by decide)
              have HK := Lib.hid hK
              clear hK ev hd
              go_simp
              exact HK.out _ _ (fun h => by cases h) hJ rfl (Ext.refl _ _)
            case o12 =>
              intro u a w' ev hJ hd K hK
              have e82 : a.tmps.getD 82 undef = .int .i64 k := (ev 82 (by decide)).trans (hd 11 _ (by kernel_rfl) rfl)
              have HK := Lib.hid hK
              clear hK ev hd
              go_simp
              exact HK.out _ _ (fun h => by cases h) hJ rfl (Ext.refl _ _)
            case o13 =>
              intro u a w' ev hJ hd K hK
              have e1 : a.tmps.getD 1 undef = .pointer (some ⟨w.heap.size, 0, none⟩) := ev 1 (by decide)
              have HK := Lib.hid hK
              clear hK ev hd
              go_simp
              exact HK.out _ _ (fun h => by cases h) hJ rfl (Ext.refl _ _)
            case o14 =>
              intro u a w' ev hJ hd K hK
              have e84 : a.tmps.getD 84 undef = .pointer (some ⟨w.heap.size, 0, none⟩) := (ev 84 (by decide)).trans (hd 13 _ (by kernel_rfl) rfl)
              have g0 := (hJ.cell (p := ⟨w.heap.size, 0, none⟩) (by dsimp only; omega)).trans cE0
              have HK := Lib.hid hK
              clear hK ev hd
              go_simp
              exact HK.out _ _ (fun h => by cases h) hJ rfl (Ext.refl _ _)
            case o15 =>
              intro u a w' ev hJ hd K hK
              have e83 : a.tmps.getD 83 undef = .int .i64 ((k : Int) + 1) := (ev 83 (by decide)).trans (hd 12 _ (by kernel_rfl) rfl)
              have e85 : a.tmps.getD 85 undef = .int .i64 S := (ev 85 (by decide)).trans (hd 14 _ (by kernel_rfl) rfl)
              have HK := Lib.hid hK
              clear hK ev hd
              go_simp
              exact HK.out _ _ (fun h => by cases h) hJ rfl (Ext.refl _ _)
            case o16 =>
              intro u a w' ev hJ hd K hK
              have e1' : a.tmps.getD 77 undef = .slice wa lw wc := (ev 77 (by decide)).trans (hd 6 _ (by kernel_rfl) rfl)
              have e2' : a.tmps.getD 81 undef = .int .i64 p1 := (ev 81 (by decide)).trans (hd 10 _ (by kernel_rfl) rfl)
              have e3' : a.tmps.getD 86 undef = .int .i64 p2 := (ev 86 (by decide)).trans (hd 15 _ (by kernel_rfl) rfl)
              have HK := Lib.hid hK
              have HPL := Lib.hid (HPP.out w' hJ)
              have hzJ := hJ.size
              clear hK ev hd
              go_simp
              refine HPL.out.mono ?_
              rintro e w'' ⟨v, rfl, ho, hb⟩
              obtain ⟨ao, co, rfl, -⟩ := owns_news ho
              rw [HZL.out]
              exact HK.out _ _ (fun h => by cases h) (hJ.trans (hb.mono hzJ)) ⟨_, _, rfl⟩ (Ext.below hb)
            case o17 =>
              intro u a w' ev hJ hd K hK
              obtain ⟨ao, co, h1⟩ : (Fact.len (T := 29) z).holds (u 87) w' := hd 16 _ (by kernel_rfl) rfl
              have e1' : a.tmps.getD 87 undef = .slice ao z co := (ev 87 (by decide)).trans h1
              have HK := Lib.hid hK
              clear hK ev hd h1
              go_simp
              exact HK.out _ _ (fun h => by cases h) hJ rfl (Ext.refl _ _)
            case o18 =>
              intro u a w' ev hJ hd K hK
              have e75 : a.tmps.getD 75 undef = .int .i64 y := (ev 75 (by decide)).trans (hd 4 _ (by kernel_rfl) rfl)
              have e88 : a.tmps.getD 88 undef = .int .i64 z := (ev 88 (by decide)).trans (hd 17 _ (by kernel_rfl) rfl)
              have HK := Lib.hid hK
              clear hK ev hd
              go_simp
              exact HK.out _ _ (fun h => by cases h) hJ rfl (Ext.refl _ _)
          case fin =>
            intro u w3 hJ hG
            have h1 : u 89 = .bool ((y : Int) != (z : Int)) := hG 18 _ rfl
            have f0 := (hJ.cell (p := ⟨w.heap.size, 0, none⟩) hz).trans cE0
            have f1 := (hJ.cell (p := ⟨w.heap.size, 1, none⟩) hz).trans cE1
            have f4 := (hJ.cell (p := ⟨w.heap.size, 4, none⟩) hz).trans cE4
            have HB3 := Lib.hid (below_via hJ HB.out (by omega))
            have hz3 : w.heap.size < w3.heap.size := by have := hJ.size; omega
            clear hG cE0 cE1 cE4 hJ
            simp only [mixFrame, mixL, dstsOf, List.take_succ_cons, List.take_zero, List.filterMap_cons, List.filterMap_nil, List.contains_cons, List.contains_nil, Nat.reduceBEq, Bool.or_false, Bool.false_or, Bool.or_true, Bool.true_or, if_true, if_false, Bool.false_eq_true, Nat.reduceAdd, Nat.zero_add, List.drop_succ_cons, List.drop_zero, h1]
            by_cases hyz : y = (z : Int)
            · subst hyz
              have hne : ((z : Int) != (z : Int)) = false := by simp
              go_wp2
              go_roundg (gk - 1)
              case measure => have := HK2.out; omega
              case rel =>
                refine ⟨k + 1, by have := HK2.out; omega, by go_num, f0, f1, f4, HB3, hz3, Lib.hid (fun j hj => ?_)⟩
                by_cases e : j = k
                · rw [e, HCA.out]; simp
                · exact HA2.out j (by omega)
            · have hne : (y != (z : Int)) = true := by simpa using hyz
              have hR8 : R = false := by rw [HRR.out, HCL.out, all_not (p := cntAt S ws cs) hlt2 (by rw [HCA.out]; simpa using hyz), Bool.and_false]
              subst hR8
              go_wp2
              go_ret
              exact ⟨rfl, HB3.out⟩
        · have hR0 : R = true := by
            rw [HRR.out, HKL.out, HCL.out, HAL.out, all_upto.2 (fun j (hj : j < M) => HA2.out j (by omega))]
            rfl
          subst hR0
          go_wp2
          go_ret
          exact ⟨rfl, HB.out⟩

theorem slMay_bad (c : SlC) (a : SlA) (hh : slHead c = false) (hl : c.ws.length ≤ 1000000000000) (hl2 : c.ks.length ≤ 1000000000000) (w : World) (hin : SlIn w c a) :
    Calls Tryz.prog 91 #[slV c a] w (AnsB w (.bool (slMay c))) := by
  have he : slMay c = false := by rw [slMay, hh]; rfl
  rw [he]
  clear he
  obtain ⟨seg, ws, ks, vs, cs, laid⟩ := c
  obtain ⟨wa, ka, va, ca, wc, kc, vc, cc⟩ := a
  obtain ⟨hw, -, -, -, hu⟩ := hin
  dsimp only at *
  dsimp only [slV]
  simp only [slHead] at hh
  have HW := Lib.hid hw
  have F1 := Lib.hid (fun w => Fits04_ok seg ks.length w)
  cases hf : fitB seg ks.length with
  | false =>
    rw [hf] at F1
    clear hh hf
    generalize ws.length = lw at *
    generalize ks.length = n at *
    generalize vs.length = lv at *
    generalize cs.length = lc at *
    clear hw hu
    go_enter Tryz.func91, Tryz.ntmps91
    go_wp2
    have d0 : (w.alloc (.cells #[.int .i64 seg, .slice wa lw wc, .slice ka n kc, .slice va lv vc, .slice ca lc cc, .int .u64 laid] 29)).cell? ⟨w.heap.size, 0, none⟩ = some (.int .i64 seg) := by (exact xcw)
    have d1 : (w.alloc (.cells #[.int .i64 seg, .slice wa lw wc, .slice ka n kc, .slice va lv vc, .slice ca lc cc, .int .u64 laid] 29)).cell? ⟨w.heap.size, 1, none⟩ = some (.slice wa lw wc) := by (exact xcw)
    have d3 : (w.alloc (.cells #[.int .i64 seg, .slice wa lw wc, .slice ka n kc, .slice va lv vc, .slice ca lc cc, .int .u64 laid] 29)).cell? ⟨w.heap.size, 3, none⟩ = some (.slice va lv vc) := by (exact xcw)
    have d4 : (w.alloc (.cells #[.int .i64 seg, .slice wa lw wc, .slice ka n kc, .slice va lv vc, .slice ca lc cc, .int .u64 laid] 29)).cell? ⟨w.heap.size, 4, none⟩ = some (.slice ca lc cc) := by (exact xcw)
    have HB0 : Hid (Below w.heap.size w (w.alloc (.cells #[.int .i64 seg, .slice wa lw wc, .slice ka n kc, .slice va lv vc, .slice ca lc cc, .int .u64 laid] 29))) := Lib.hid ((Below.refl _ _).alloc (Nat.le_refl _) _)
    generalize (w.alloc (.cells #[.int .i64 seg, .slice wa lw wc, .slice ka n kc, .slice va lv vc, .slice ca lc cc, .int .u64 laid] 29)) = w1 at *
    have Q1 := Lib.hid (fun q => Calls.quiet_of_same ((F1.out (w1.drewN q)).mono fun _ _ h => ⟨h.1, h.2.symm⟩))
    go_quiet (exact Q1.out _)
    go_wp2
    go_ret
    exact ⟨rfl, below_drewN HB0.out _⟩
  | true =>
    rw [hf] at F1 hh
    obtain ⟨f1, f2, -, f4, f5, f6, -⟩ := fitB_facts hf
    have O1 := Lib.hid (fun w hw => May02_ok wa wc ws hu ks.length (by omega) hl w hw)
    clear hf
    by_cases c2 : vs.length = ks.length
    · have hv1 : ((vs.length : Int) != (ks.length : Int)) = false := by simp [c2]
      rw [decide_eq_true c2, Bool.true_and, Bool.true_and] at hh
      cases hwm : wMayB ws ks.length with
      | true =>
        rw [hwm, Bool.true_and, decide_eq_false_iff_not] at hh
        rw [hwm] at O1
        have hd0 : 0 ≤ (ks.length : Int) / seg := Int.ediv_nonneg (by omega) (by omega)
        have hd1 : (ks.length : Int) / seg ≤ ks.length := Int.ediv_le_self _ (by omega)
        have hqM : ((cs.length : Int) != wrap64 ((ks.length : Int) / seg)) = true := by
          rw [IntWalk.wrap64_in _ (by omega)]
          simpa using hh
        have htd : (ks.length : Int).tdiv seg = (ks.length : Int) / seg := Int.tdiv_eq_ediv_of_nonneg (by omega)
        have hS0 : (seg == 0) = false := by simp; omega
        clear hh hwm hd0 hd1 c2
        generalize ws.length = lw at *
        generalize ks.length = n at *
        generalize vs.length = lv at *
        generalize cs.length = lc at *
        clear hw hu
        go_enter Tryz.func91, Tryz.ntmps91
        go_wp2
        have d0 : (w.alloc (.cells #[.int .i64 seg, .slice wa lw wc, .slice ka n kc, .slice va lv vc, .slice ca lc cc, .int .u64 laid] 29)).cell? ⟨w.heap.size, 0, none⟩ = some (.int .i64 seg) := by (exact xcw)
        have d1 : (w.alloc (.cells #[.int .i64 seg, .slice wa lw wc, .slice ka n kc, .slice va lv vc, .slice ca lc cc, .int .u64 laid] 29)).cell? ⟨w.heap.size, 1, none⟩ = some (.slice wa lw wc) := by (exact xcw)
        have d3 : (w.alloc (.cells #[.int .i64 seg, .slice wa lw wc, .slice ka n kc, .slice va lv vc, .slice ca lc cc, .int .u64 laid] 29)).cell? ⟨w.heap.size, 3, none⟩ = some (.slice va lv vc) := by (exact xcw)
        have d4 : (w.alloc (.cells #[.int .i64 seg, .slice wa lw wc, .slice ka n kc, .slice va lv vc, .slice ca lc cc, .int .u64 laid] 29)).cell? ⟨w.heap.size, 4, none⟩ = some (.slice ca lc cc) := by (exact xcw)
        have HB0 : Hid (Below w.heap.size w (w.alloc (.cells #[.int .i64 seg, .slice wa lw wc, .slice ka n kc, .slice va lv vc, .slice ca lc cc, .int .u64 laid] 29))) := Lib.hid ((Below.refl _ _).alloc (Nat.le_refl _) _)
        generalize (w.alloc (.cells #[.int .i64 seg, .slice wa lw wc, .slice ka n kc, .slice va lv vc, .slice ca lc cc, .int .u64 laid] 29)) = w1 at *
        have Q1 := Lib.hid (fun q => Calls.quiet_of_same ((F1.out (w1.drewN q)).mono fun _ _ h => ⟨h.1, h.2.symm⟩))
        have Q2 := Lib.hid (fun q => Calls.quiet_of_same ((O1.out (w1.drewN q) (HW.out.below (below_drewN HB0.out q))).mono fun _ _ h => ⟨h.1, h.2.symm⟩))
        go_quiet (first | exact Q1.out _ | exact Q2.out _)
        go_wp2
        go_ret
        exact ⟨rfl, below_drewN HB0.out _⟩
      | false =>
        rw [hwm] at O1
        clear hh hwm c2
        generalize ws.length = lw at *
        generalize ks.length = n at *
        generalize vs.length = lv at *
        generalize cs.length = lc at *
        clear hw hu
        go_enter Tryz.func91, Tryz.ntmps91
        go_wp2
        have d0 : (w.alloc (.cells #[.int .i64 seg, .slice wa lw wc, .slice ka n kc, .slice va lv vc, .slice ca lc cc, .int .u64 laid] 29)).cell? ⟨w.heap.size, 0, none⟩ = some (.int .i64 seg) := by (exact xcw)
        have d1 : (w.alloc (.cells #[.int .i64 seg, .slice wa lw wc, .slice ka n kc, .slice va lv vc, .slice ca lc cc, .int .u64 laid] 29)).cell? ⟨w.heap.size, 1, none⟩ = some (.slice wa lw wc) := by (exact xcw)
        have d3 : (w.alloc (.cells #[.int .i64 seg, .slice wa lw wc, .slice ka n kc, .slice va lv vc, .slice ca lc cc, .int .u64 laid] 29)).cell? ⟨w.heap.size, 3, none⟩ = some (.slice va lv vc) := by (exact xcw)
        have d4 : (w.alloc (.cells #[.int .i64 seg, .slice wa lw wc, .slice ka n kc, .slice va lv vc, .slice ca lc cc, .int .u64 laid] 29)).cell? ⟨w.heap.size, 4, none⟩ = some (.slice ca lc cc) := by (exact xcw)
        have HB0 : Hid (Below w.heap.size w (w.alloc (.cells #[.int .i64 seg, .slice wa lw wc, .slice ka n kc, .slice va lv vc, .slice ca lc cc, .int .u64 laid] 29))) := Lib.hid ((Below.refl _ _).alloc (Nat.le_refl _) _)
        generalize (w.alloc (.cells #[.int .i64 seg, .slice wa lw wc, .slice ka n kc, .slice va lv vc, .slice ca lc cc, .int .u64 laid] 29)) = w1 at *
        have Q1 := Lib.hid (fun q => Calls.quiet_of_same ((F1.out (w1.drewN q)).mono fun _ _ h => ⟨h.1, h.2.symm⟩))
        have Q2 := Lib.hid (fun q => Calls.quiet_of_same ((O1.out (w1.drewN q) (HW.out.below (below_drewN HB0.out q))).mono fun _ _ h => ⟨h.1, h.2.symm⟩))
        go_quiet (first | exact Q1.out _ | exact Q2.out _)
        go_wp2
        go_ret
        exact ⟨rfl, below_drewN HB0.out _⟩
    · have hv1 : ((vs.length : Int) != (ks.length : Int)) = true := by simp; omega
      clear hh c2
      generalize ws.length = lw at *
      generalize ks.length = n at *
      generalize vs.length = lv at *
      generalize cs.length = lc at *
      clear hw hu
      go_enter Tryz.func91, Tryz.ntmps91
      go_wp2
      have d0 : (w.alloc (.cells #[.int .i64 seg, .slice wa lw wc, .slice ka n kc, .slice va lv vc, .slice ca lc cc, .int .u64 laid] 29)).cell? ⟨w.heap.size, 0, none⟩ = some (.int .i64 seg) := by (exact xcw)
      have d1 : (w.alloc (.cells #[.int .i64 seg, .slice wa lw wc, .slice ka n kc, .slice va lv vc, .slice ca lc cc, .int .u64 laid] 29)).cell? ⟨w.heap.size, 1, none⟩ = some (.slice wa lw wc) := by (exact xcw)
      have d3 : (w.alloc (.cells #[.int .i64 seg, .slice wa lw wc, .slice ka n kc, .slice va lv vc, .slice ca lc cc, .int .u64 laid] 29)).cell? ⟨w.heap.size, 3, none⟩ = some (.slice va lv vc) := by (exact xcw)
      have d4 : (w.alloc (.cells #[.int .i64 seg, .slice wa lw wc, .slice ka n kc, .slice va lv vc, .slice ca lc cc, .int .u64 laid] 29)).cell? ⟨w.heap.size, 4, none⟩ = some (.slice ca lc cc) := by (exact xcw)
      have HB0 : Hid (Below w.heap.size w (w.alloc (.cells #[.int .i64 seg, .slice wa lw wc, .slice ka n kc, .slice va lv vc, .slice ca lc cc, .int .u64 laid] 29))) := Lib.hid ((Below.refl _ _).alloc (Nat.le_refl _) _)
      generalize (w.alloc (.cells #[.int .i64 seg, .slice wa lw wc, .slice ka n kc, .slice va lv vc, .slice ca lc cc, .int .u64 laid] 29)) = w1 at *
      have Q1 := Lib.hid (fun q => Calls.quiet_of_same ((F1.out (w1.drewN q)).mono fun _ _ h => ⟨h.1, h.2.symm⟩))
      go_quiet (exact Q1.out _)
      go_wp2
      go_ret
      exact ⟨rfl, below_drewN HB0.out _⟩

theorem May04_ok (c : SlC) (a : SlA) (hl : c.ws.length ≤ 1000000000000) (hl2 : c.ks.length ≤ 1000000000000) (w : World) (hin : SlIn w c a) :
    Calls Tryz.prog 91 #[slV c a] w (AnsB w (.bool (slMay c))) := by
  cases hh : slHead c with
  | true => exact slMay_in c a hh w hin
  | false => exact slMay_bad c a hh hl hl2 w hin
end
end Go.Proofs.YtjhpblejlchhjaaGreat

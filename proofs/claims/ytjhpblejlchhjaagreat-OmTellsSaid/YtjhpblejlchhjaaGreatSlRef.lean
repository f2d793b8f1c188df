/- Merged: Ref02, SlChk. -/
import Derived.Test.YtjhpblejlchhjaaGreatOccAll
import Derived.Test.YtjhpblejlchhjaaGreatBitFits
import Derived.Test.YtjhpblejlchhjaaGreatRowAll
namespace Go.Proofs.YtjhpblejlchhjaaGreat
set_option maxRecDepth 100000
set_option maxHeartbeats 4000000
set_option linter.unusedVariables false
set_option linter.unusedSimpArgs false
section
open Go.RowKit

theorem bit02_ok (x : Int) (h0 : 0 ≤ x) (h1 : x < 18446744073709551616) (k : Nat) (hk : k < 64) (w : World) :
    Calls Tryz.prog 115 #[.int .u64 x, .int .i64 k] w fun e w' => e = .returned (.bool (bitI x k)) ∧ w = w' := by
  have hd := bitI_div h0 k
  have hq0 : 0 ≤ x / 2 ^ k := Int.ediv_nonneg h0 (Int.le_of_lt (Int.pow_pos (by omega)))
  generalize bitI x k = b at *
  obtain ⟨q, hq⟩ : ∃ q, x / 2 ^ k = q := ⟨_, rfl⟩
  rw [hq] at hd hq0
  have hb : (q % 2 == 1) = b := by cases b <;> simp [hd]
  clear hd
  go_enter Tryz.func115, Tryz.ntmps115
  go_wp2
  go_ret
  exact ⟨by rw [← hb]; rfl, rfl⟩
theorem Is02_ok (wa : Option Addr) (wc : Nat) (ws : List Int) (hu : U64s ws) (i : Nat) (hi : i / 64 < ws.length) (hi2 : i ≤ 1000000000000) (w : World) (hw : IsRow .u64 w wa ws) :
    Calls Tryz.prog 101 #[.slice wa ws.length wc, .int .i64 i] w fun e w' => e = .returned (.bool (bitW ws i)) ∧ w = w' := by
  obtain ⟨b, off, x, rfl, hx, hc, -⟩ := hw.get hi
  have hg := hu.get (i / 64)
  rw [hx.out] at hg
  have hb : bitW ws i = bitI x (i % 64) := by rw [bitW, hx.out]
  rw [hb]
  have B := Lib.hid (fun w => bit02_ok x hg.1 hg.2 (i % 64) (Nat.mod_lt _ (by omega)) w)
  obtain ⟨q, hq⟩ : ∃ q, i / 64 = q := ⟨_, rfl⟩
  obtain ⟨r, hr⟩ : ∃ r, i % 64 = r := ⟨_, rfl⟩
  have hqI : (i : Int) / 64 = (q : Int) := by omega
  have hrI : (i : Int) % 64 = (r : Int) := by omega
  rw [hq] at hc hi
  rw [hr] at B ⊢
  generalize ws.length = m at *
  clear hx hb hw hu hq hr
  go_enter Tryz.func101, Tryz.ntmps101
  go_wp2_with (go_at_call 115; refine (B.out _).mono ?_; rintro e w' ⟨rfl, rfl⟩)
  go_ret
  exact ⟨rfl, rfl⟩
theorem May02_ok (wa : Option Addr) (wc : Nat) (ws : List Int) (hu : U64s ws) (n : Nat) (hn : n ≤ 65536) (hl : ws.length ≤ 1000000000000) (w : World) (hw : IsRow .u64 w wa ws) :
    Calls Tryz.prog 108 #[.slice wa ws.length wc, .int .i64 n] w fun e w' => e = .returned (.bool (wMayB ws n)) ∧ w = w' := by
  by_cases c1 : ws.length = (n + 63) / 64
  · have e1 : wMayB ws n = (List.range' n (64 * ws.length - n)).all fun i => !bitW ws i := by rw [wMayB, decide_eq_true c1, Bool.true_and]
    have hd : ((ws.length : Int) != ((n : Int) + 63) / 64) = false := by simp; omega
    have IS := Lib.hid (fun i hi w hw => Is02_ok wa wc ws hu i hi (by omega) w hw)
    have hnb : 64 * ws.length ≤ 65600 := by omega
    have hnl : n ≤ 64 * ws.length := by omega
    obtain ⟨z, hz⟩ : ∃ z, wMayB ws n = z := ⟨_, rfl⟩
    have HZ := Lib.hid (e1.symm.trans hz)
    rw [hz]
    have HW := Lib.hid hw
    obtain ⟨m, hm⟩ : ∃ m, ws.length = m := ⟨_, rfl⟩
    rw [hm] at hd IS hnb hnl ⊢
    have HM := Lib.hid hm
    clear hw c1 e1 hz hm hl
    go_enter Tryz.func108, Tryz.ntmps108
    go_wp2
    go_loopg [5] (64 * m - n) (fun gk iv wr => ∃ i : Nat, i + gk = 64 * m ∧ n ≤ i ∧ iv = .int .i64 i ∧ wr = w ∧ Hid (∀ j, n ≤ j → j < i → bitW ws j = false))
    case atStart => exact ⟨n, by omega, Nat.le_refl _, rfl, rfl, Lib.hid (fun j h1 h2 => by omega)⟩
    case round =>
      obtain ⟨i, hi, hni, rfl, rfl, HF⟩ := hrel
      by_cases hlt : i < 64 * m
      · have B := Lib.hid (IS.out i (by omega) wr HW.out)
        cases hb : bitW ws i with
        | true =>
          rw [hb] at B
          have hzf : z = false := by
            rw [← HZ.out, HM.out, List.all_eq_false]
            exact ⟨i, List.mem_range'_1.2 (by omega), by simp [hb]⟩
          subst hzf
          clear hb
          go_wp2_with (go_at_call 101; refine B.out.mono ?_; rintro e w' ⟨rfl, rfl⟩)
          go_ret
          exact ⟨rfl, rfl⟩
        | false =>
          rw [hb] at B
          have HB := Lib.hid hb
          clear hb
          go_wp2_with (go_at_call 101; refine B.out.mono ?_; rintro e w' ⟨rfl, rfl⟩)
          go_roundg (gk - 1)
          case measure => omega
          case rel =>
            refine ⟨i + 1, by omega, by omega, by go_num, rfl, Lib.hid (fun j h1 h2 => ?_)⟩
            by_cases e : j = i
            · rw [e]; exact HB.out
            · exact HF.out j h1 (by omega)
      · have hzt : z = true := by
          rw [← HZ.out, HM.out, List.all_eq_true]
          intro j hj
          have := List.mem_range'_1.1 hj
          rw [HF.out j (by omega) (by omega)]
          rfl
        subst hzt
        go_wp2
        go_ret
        exact ⟨rfl, rfl⟩
  · have e : wMayB ws n = false := by simp [wMayB, c1]
    have hd : ((ws.length : Int) != ((n : Int) + 63) / 64) = true := by simp; omega
    rw [e]
    generalize ws.length = m at *
    clear e
    go_enter Tryz.func108, Tryz.ntmps108
    go_wp2
    go_ret
    exact ⟨rfl, rfl⟩
theorem Places02_ok (wa : Option Addr) (wc : Nat) (ws : List Int) (hu : U64s ws) (a b : Nat) (hb : b ≤ 64 * ws.length) (hbb : b ≤ 65600) (haa : a ≤ 100000) (w : World) (hw : IsRow .u64 w wa ws) :
    Calls Tryz.prog 82 #[.slice wa ws.length wc, .int .i64 a, .int .i64 b] w (FreshInts w (ints (plsW ws a b))) := by
  have IS := Lib.hid (fun i hi hi2 w hw => Is02_ok wa wc ws hu i hi hi2 w hw)
  have HW := Lib.hid hw
  obtain ⟨m, hm⟩ : ∃ m, ws.length = m := ⟨_, rfl⟩
  rw [hm] at IS hb ⊢
  clear hw hm
  go_enter Tryz.func82, Tryz.ntmps82
  go_wp2
  go_loopg [7, 8] (b - a) (fun gk v iv wr => ∃ i : Nat, i + gk = a + (b - a) ∧ a ≤ i ∧ iv = .int .i64 i ∧ Hid (wr.ownsRow w.heap.size 3 1 v (ints (plsW ws a i)).length ((ints (plsW ws a i)).map (Value.int .i64))) ∧ Hid (Below w.heap.size w wr))
  case atStart =>
    refine ⟨a, by omega, Nat.le_refl _, rfl, Lib.hid ?_, Lib.hid (Below.refl _ _)⟩
    rw [plsW_nil]
    exact World.ownsRow_nil _ _ _ _
  case round =>
    obtain ⟨i, hi, hai, rfl, HO, HB⟩ := hrel
    by_cases hlt : i < b
    · have B := Lib.hid (IS.out i (by omega) (by omega) wr (HW.out.below HB.out))
      have hz := HB.out.size
      cases hbi : bitW ws i with
      | true =>
        rw [hbi] at B
        have hsu : ints (plsW ws a (i + 1)) = ints (plsW ws a i) ++ [(i : Int)] := by rw [plsW_succ hai, if_pos hbi, ints_append]; rfl
        have hlen : (ints (plsW ws a i)).length ≤ 65600 := by
          rw [ints_length, plsW_length]
          have := cntW_le ws a i
          omega
        have HSU := Lib.hid hsu
        obtain ⟨a', c', rfl, hn', -⟩ := owns_news HO.out
        clear hsu hbi
        go_wp2_with (first
          | (go_at_call 101; refine B.out.mono ?_; rintro e w' ⟨rfl, rfl⟩)
          | (at_builtin; refine wpl_append (.tmp 18) (.tmp 20) 26 3 (.int .i64 0) 1 8 Tryz.underlying26 info_int rfl (by decide) (by decide) w.heap.size _ _ _ (some ⟨wr.heap.size, 0, none⟩) 1 1 [.int .i64 i] (HO.out.alloc _) rfl (fun h => by cases h) (new_cells _ [.int .i64 i] _ _ rfl) (by simp [Value.oneCell']) (by omega) (by simp; omega) rfl rfl rfl rfl ?_; intro v2 w2 ho2 hg2 _
             have HO2 := Lib.hid ho2
             have HB2 := Lib.hid ((HB.out.alloc hz (.cells #[.int .i64 i] 3)).grown hg2 (by simp; omega) (fun z hz => (HO.out.lt z hz).1))
             clear ho2 hg2))
        go_roundg (gk - 1)
        case measure => omega
        case rel =>
          refine ⟨i + 1, by omega, by omega, by go_num, Lib.hid ?_, HB2⟩
          rw [HSU.out, List.length_append, List.map_append]
          exact HO2.out
      | false =>
        rw [hbi] at B
        have hsu : ints (plsW ws a (i + 1)) = ints (plsW ws a i) := by rw [plsW_succ hai, if_neg (by rw [hbi]; decide), List.append_nil]
        have HSU := Lib.hid hsu
        clear hsu hbi
        go_wp2_with (go_at_call 101; refine B.out.mono ?_; rintro e w' ⟨rfl, rfl⟩)
        go_roundg (gk - 1)
        case measure => omega
        case rel => exact ⟨i + 1, by omega, by omega, by go_num, Lib.hid (by rw [HSU.out]; exact HO.out), HB⟩
    · have he : plsW ws a b = plsW ws a i := by
        by_cases h : a ≤ b
        · rw [show i = b by omega]
        · rw [plsW_none (by omega : b ≤ a), show i = a by omega, plsW_nil]
      have HE := Lib.hid he
      clear he
      go_wp2
      go_ret
      refine ⟨_, rfl, ?_, HB.out⟩
      rw [HE.out]
      exact HO.out
end

section
open Go.RowKit

def clrAt (ws ks vs : List Int) (i : Nat) : Bool := bitW ws i || (ks.getD i 0 == 0 && vs.getD i 0 == 0)
def cntAt (seg : Int) (ws cs : List Int) (k : Nat) : Bool := cs.getD k 0 == (cntW ws (k * seg.toNat) ((k + 1) * seg.toNat) : Int)
theorem slMay_eq (c : SlC) (h : slHead c = true) : slMay c = ((List.range c.ks.length).all (clrAt c.ws c.ks c.vs) && (List.range c.cs.length).all (cntAt c.seg c.ws c.cs)) := by
  rw [slMay, h, Bool.true_and]
  rfl
theorem slMay_head {c : SlC} (h : slMay c = true) : slHead c = true := by
  simp only [slMay, Bool.and_eq_true] at h
  exact h.1.1
theorem all_upto {p : Nat → Bool} {n : Nat} : (List.range n).all p = true ↔ ∀ i, i < n → p i = true := by
  simp [List.all_eq_true]
theorem all_not {p : Nat → Bool} {n i : Nat} (h : i < n) (hp : p i = false) : (List.range n).all p = false := by
  rw [List.all_eq_false]
  exact ⟨i, List.mem_range.2 h, by simp [hp]⟩

theorem slCheck_in (c : SlC) (a : SlA) (hh : slHead c = true) (w : World) (hin : SlIn w c a) :
    Calls Tryz.prog 56 #[slV c a] w (AnsB w (.int .i64 (slE c))) := by
  obtain ⟨S, M, hS, hS4, hS64, hnk, hnv, hnc, hM1, hSM, hM2, hnw, -, -, -⟩ := slHead_facts hh
  have he := slMay_eq c hh
  simp only [slHead, Bool.and_eq_true, decide_eq_true_eq] at hh
  obtain ⟨⟨⟨hf, -⟩, hwm⟩, -⟩ := hh
  rw [hnk] at hf hwm
  obtain ⟨R, hR⟩ : ∃ R, slE c = R := ⟨_, rfl⟩
  have hR2 : R = if ((List.range c.ks.length).all (clrAt c.ws c.ks c.vs) && (List.range c.cs.length).all (cntAt c.seg c.ws c.cs)) = true then 0 else 8 := by rw [← hR, slE, he]
  rw [hR]
  clear he hR
  obtain ⟨seg, ws, ks, vs, cs, laid⟩ := c
  obtain ⟨wa, ka, va, ca, wc, kc, vc, cc⟩ := a
  obtain ⟨hw, hk, hv, hcn, hu⟩ := hin
  dsimp only at *
  subst hS
  have HW := Lib.hid hw
  have HK := Lib.hid hk
  have HV := Lib.hid hv
  have HN := Lib.hid hcn
  have HU := Lib.hid hu
  obtain ⟨n, hn⟩ : ∃ n, S * M = n := ⟨_, rfl⟩
  rw [hn] at hnk hnv hnw hf hwm hSM
  have HLW := Lib.hid hnw
  have F1 := Lib.hid (fun w => fits_ok S n w)
  rw [hf] at F1
  have O1 := Lib.hid (fun w hw => occCheck_ok wa wc ws hu n hSM (by omega) w hw)
  have C1 := Lib.hid (fun k (h : k < M) w hw => Count_ok wa wc ws hu n (k * S) ((k + 1) * S) hSM (by omega) hwm (Nat.mul_le_mul_right _ (by omega)) (by rw [← hn, Nat.mul_comm S]; exact Nat.mul_le_mul_right _ (by omega)) w hw)
  rw [if_pos hwm] at O1
  have hqI : (n : Int) / (S : Int) = (M : Int) := by rw [← hn]; push_cast; exact Int.mul_ediv_cancel_left _ (by omega)
  have hqM : ((M : Int) != wrap64 ((n : Int) / (S : Int))) = false := by rw [hqI, IntWalk.wrap64_in _ (by omega)]; simp
  have htd : (n : Int).tdiv S = (n : Int) / S := Int.tdiv_eq_ediv_of_nonneg (by omega)
  have hS0 : ((S : Int) == 0) = false := by simp; omega
  have HRR := Lib.hid hR2
  have HKL := Lib.hid hnk
  have HVL := Lib.hid hnv
  have HCL := Lib.hid hnc
  have HNM := Lib.hid hn
  obtain ⟨lw, hlw⟩ : ∃ lw, ws.length = lw := ⟨_, rfl⟩
  dsimp only [slV]
  rw [hnk, hnv, hnc, hlw]
  rw [hlw] at O1 C1
  have HLL := Lib.hid hlw
  clear hw hk hv hcn hu hf hwm hR2 hnk hnv hnc hnw hlw hqI hn
  have g1 : (!true) = false := rfl
  go_enter Tryz.func56, Tryz.ntmps56
  go_wp2
  have d0 : (w.alloc (.cells #[.int .i64 (S : Int), .slice wa lw wc, .slice ka n kc, .slice va n vc, .slice ca M cc, .int .u64 laid] 29)).cell? ⟨w.heap.size, 0, none⟩ = some (.int .i64 (S : Int)) := by (exact xcw)
  have d1 : (w.alloc (.cells #[.int .i64 (S : Int), .slice wa lw wc, .slice ka n kc, .slice va n vc, .slice ca M cc, .int .u64 laid] 29)).cell? ⟨w.heap.size, 1, none⟩ = some (.slice wa lw wc) := by (exact xcw)
  have d2 : (w.alloc (.cells #[.int .i64 (S : Int), .slice wa lw wc, .slice ka n kc, .slice va n vc, .slice ca M cc, .int .u64 laid] 29)).cell? ⟨w.heap.size, 2, none⟩ = some (.slice ka n kc) := by (exact xcw)
  have d3 : (w.alloc (.cells #[.int .i64 (S : Int), .slice wa lw wc, .slice ka n kc, .slice va n vc, .slice ca M cc, .int .u64 laid] 29)).cell? ⟨w.heap.size, 3, none⟩ = some (.slice va n vc) := by (exact xcw)
  have d4 : (w.alloc (.cells #[.int .i64 (S : Int), .slice wa lw wc, .slice ka n kc, .slice va n vc, .slice ca M cc, .int .u64 laid] 29)).cell? ⟨w.heap.size, 4, none⟩ = some (.slice ca M cc) := by (exact xcw)
  have HB0 : Hid (Below w.heap.size w (w.alloc (.cells #[.int .i64 (S : Int), .slice wa lw wc, .slice ka n kc, .slice va n vc, .slice ca M cc, .int .u64 laid] 29))) := Lib.hid ((Below.refl _ _).alloc (Nat.le_refl _) _)
  have hz0 : w.heap.size < (w.alloc (.cells #[.int .i64 (S : Int), .slice wa lw wc, .slice ka n kc, .slice va n vc, .slice ca M cc, .int .u64 laid] 29)).heap.size := by simp
  generalize (w.alloc (.cells #[.int .i64 (S : Int), .slice wa lw wc, .slice ka n kc, .slice va n vc, .slice ca M cc, .int .u64 laid] 29)) = w1 at *
  have Q1 := Lib.hid (fun q => Calls.quiet_of_same ((F1.out (w1.drewN q)).mono fun _ _ h => ⟨h.1, h.2.symm⟩))
  have Q2 := Lib.hid (fun q => Calls.quiet_of_same ((O1.out (w1.drewN q) (HW.out.below (below_drewN HB0.out q))).mono fun _ _ h => ⟨h.1, h.2.symm⟩))
  go_quiet (first | exact Q1.out _ | exact Q2.out _)
  have HB1 := Lib.hid (below_drewN HB0.out nq)
  replace d0 : (w1.drewN nq).cell? ⟨w.heap.size, 0, none⟩ = some (.int .i64 (S : Int)) := d0
  replace d1 : (w1.drewN nq).cell? ⟨w.heap.size, 1, none⟩ = some (.slice wa lw wc) := d1
  replace d2 : (w1.drewN nq).cell? ⟨w.heap.size, 2, none⟩ = some (.slice ka n kc) := d2
  replace d3 : (w1.drewN nq).cell? ⟨w.heap.size, 3, none⟩ = some (.slice va n vc) := d3
  replace d4 : (w1.drewN nq).cell? ⟨w.heap.size, 4, none⟩ = some (.slice ca M cc) := d4
  replace hz0 : w.heap.size < (w1.drewN nq).heap.size := by simpa using hz0
  generalize w1.drewN nq = w2 at *
  clear Q1 Q2 HB0
  go_wp2
  go_loopg [42] n (fun gk iv wr => ∃ i : Nat, i + gk = n ∧ iv = .int .i64 i ∧ wr = w2 ∧ Hid (∀ j, j < i → clrAt ws ks vs j = true))
  case atStart => exact ⟨0, by omega, rfl, rfl, Lib.hid (fun j h => by omega)⟩
  case round =>
    obtain ⟨i, hi, rfl, rfl, HA⟩ := hrel
    by_cases hlt : i < n
    · have hg := HU.out.get (i / 64)
      obtain ⟨bw, ow, x, rfl, hx, cw, -⟩ := (HW.out.below HB1.out).get (i := i / 64) (by have := HLL.out; have := HLW.out; omega)
      obtain ⟨bk, ok, kx, rfl, hkx, ck, -⟩ := (HK.out.below HB1.out).get (i := i) (by rw [HKL.out]; exact hlt)
      obtain ⟨bv, ov, vx, rfl, hvx, cv, -⟩ := (HV.out.below HB1.out).get (i := i) (by rw [HVL.out]; exact hlt)
      rw [hx.out] at hg
      have hbit : bitW ws i = bitI x (i % 64) := by rw [bitW, hx.out]
      have hand := bitI_and hg.1 hg.2 (i % 64)
      have hclr : clrAt ws ks vs i = (bitW ws i || (kx == 0 && vx == 0)) := by unfold clrAt; rw [hkx.out, hvx.out]
      rw [hbit] at hclr
      obtain ⟨q, hq⟩ : ∃ q, i / 64 = q := ⟨_, rfl⟩
      obtain ⟨r, hr⟩ : ∃ r, i % 64 = r := ⟨_, rfl⟩
      have hqI : (i : Int) / 64 = (q : Int) := by omega
      have hrI : (i : Int) % 64 = (r : Int) := by omega
      have hql : q < lw := by have := HLL.out; have := HLW.out; omega
      have hr64 : r < 64 := by omega
      rw [hq] at cw
      rw [hr] at hand hclr
      generalize bitI x r = bt at *
      clear hx hkx hvx hq hr hbit
      cases bt with
      | true =>
        rw [if_pos rfl] at hand
        have HC := Lib.hid hclr
        clear hclr
        go_wp2
        go_roundg (gk - 1)
        case measure => omega
        case rel =>
          refine ⟨i + 1, by omega, by go_num, rfl, Lib.hid (fun j hj => ?_)⟩
          by_cases e : j = i
          · rw [e, HC.out]; rfl
          · exact HA.out j (by omega)
      | false =>
        rw [if_neg (by decide)] at hand
        by_cases hk0 : kx = 0
        · by_cases hv0 : vx = 0
          · subst hk0 hv0
            have HC := Lib.hid hclr
            clear hclr
            go_wp2
            go_roundg (gk - 1)
            case measure => omega
            case rel =>
              refine ⟨i + 1, by omega, by go_num, rfl, Lib.hid (fun j hj => ?_)⟩
              by_cases e : j = i
              · rw [e, HC.out]; rfl
              · exact HA.out j (by omega)
          · subst hk0
            have hv1 : (vx != 0) = true := by simpa using hv0
            have hR8 : R = 8 := by
              rw [HRR.out, HKL.out, all_not hlt (by rw [hclr]; simp [hv0]), Bool.false_and]
              rfl
            subst hR8
            clear hclr
            go_wp2
            go_ret
            exact ⟨rfl, HB1.out⟩
        · have hk1 : (kx != 0) = true := by simpa using hk0
          have hR8 : R = 8 := by
            rw [HRR.out, HKL.out, all_not hlt (by rw [hclr]; simp [hk0]), Bool.false_and]
            rfl
          subst hR8
          clear hclr
          go_wp2
          go_ret
          exact ⟨rfl, HB1.out⟩
    · have hin : n = i := by omega
      subst hin
      have HAL := Lib.hid (all_upto.2 (fun j (hj : j < n) => HA.out j (by omega)))
      clear HA
      go_wp2
      go_loopg [76] M (fun gk iv wr => ∃ k : Nat, k + gk = M ∧ iv = .int .i64 k ∧ wr.cell? ⟨w.heap.size, 0, none⟩ = some (.int .i64 (S : Int)) ∧ wr.cell? ⟨w.heap.size, 1, none⟩ = some (.slice wa lw wc) ∧ Hid (Below w.heap.size w wr) ∧ w.heap.size < wr.heap.size ∧ Hid (∀ j, j < k → cntAt S ws cs j = true))
      case atStart => exact ⟨0, by omega, rfl, d0, d1, HB1, hz0, Lib.hid (fun j h => by omega)⟩
      case round =>
        obtain ⟨k, hk, rfl, e0, e1, HB, hz, HA2⟩ := hrel
        by_cases hlt2 : k < M
        · obtain ⟨bn, on, y, rfl, hy, cy, -⟩ := (HN.out.below HB.out).get (i := k) (by rw [HCL.out]; exact hlt2)
          have hca : cntAt S ws cs k = (y == (cntW ws (k * S) ((k + 1) * S) : Int)) := by unfold cntAt; rw [hy.out, Int.toNat_natCast]
          have hcw := C1.out k hlt2 wr (HW.out.below HB.out)
          have hk1 : (k : Int) * (S : Int) = ((k * S : Nat) : Int) := by push_cast; rfl
          have hk2 : ((k : Int) + 1) * (S : Int) = (((k + 1) * S : Nat) : Int) := by push_cast; rfl
          have hkb1 : k * S ≤ n := by rw [← HNM.out, Nat.mul_comm S]; exact Nat.mul_le_mul_right _ (by omega)
          have hkb2 : (k + 1) * S ≤ n := by rw [← HNM.out, Nat.mul_comm S]; exact Nat.mul_le_mul_right _ (by omega)
          generalize cntW ws (k * S) ((k + 1) * S) = z at *
          generalize k * S = p1 at *
          generalize (k + 1) * S = p2 at *
          have HCW := Lib.hid hcw
          clear hcw hy
          by_cases hyz : y = (z : Int)
          · subst hyz
            have HCA := Lib.hid hca
            clear hca
            go_wp2_with fail
            refine HCW.out.mono ?_
            rintro e w3 ⟨rfl, hb3⟩
            replace e0 := (hb3.cell (p := ⟨w.heap.size, 0, none⟩) hz).trans e0
            replace e1 := (hb3.cell (p := ⟨w.heap.size, 1, none⟩) hz).trans e1
            have HB3 := Lib.hid (below_via hb3 HB.out (by omega))
            have hz3 : w.heap.size < w3.heap.size := by have := hb3.size; omega
            clear hb3
            go_wp2
            go_roundg (gk - 1)
            case measure => omega
            case rel =>
              refine ⟨k + 1, by omega, by go_num, e0, e1, HB3, hz3, Lib.hid (fun j hj => ?_)⟩
              by_cases e : j = k
              · rw [e, HCA.out]; simp
              · exact HA2.out j (by omega)
          · have hne : ((z : Int) != y) = true := by simp; omega
            have hR8 : R = 8 := by
              rw [HRR.out, HCL.out, all_not (p := cntAt S ws cs) hlt2 (by rw [hca]; simpa using hyz), Bool.and_false]
              rfl
            subst hR8
            clear hca
            go_wp2_with fail
            refine HCW.out.mono ?_
            rintro e w3 ⟨rfl, hb3⟩
            have HB3 := Lib.hid (below_via hb3 HB.out (by omega))
            clear hb3
            go_wp2
            go_ret
            exact ⟨rfl, HB3.out⟩
        · have hR0 : R = 0 := by
            rw [HRR.out, HKL.out, HCL.out, HAL.out, all_upto.2 (fun j (hj : j < M) => HA2.out j (by omega))]
            rfl
          subst hR0
          go_wp2
          go_ret
          exact ⟨rfl, HB.out⟩

theorem slCheck_bad (c : SlC) (a : SlA) (hh : slHead c = false) (hl : c.ws.length ≤ 1000000000000) (hl2 : c.ks.length ≤ 1000000000000) (w : World) (hin : SlIn w c a) :
    Calls Tryz.prog 56 #[slV c a] w (AnsB w (.int .i64 (slE c))) := by
  have he : slE c = 8 := by rw [slE, slMay, hh]; rfl
  rw [he]
  clear he
  obtain ⟨seg, ws, ks, vs, cs, laid⟩ := c
  obtain ⟨wa, ka, va, ca, wc, kc, vc, cc⟩ := a
  obtain ⟨hw, -, -, -, hu⟩ := hin
  dsimp only at *
  dsimp only [slV]
  simp only [slHead] at hh
  have HW := Lib.hid hw
  have F1 := Lib.hid (fun w => fits_ok seg ks.length w)
  cases hf : fitB seg ks.length with
  | false =>
    rw [hf] at F1
    clear hh hf
    generalize ws.length = lw at *
    generalize ks.length = n at *
    generalize vs.length = lv at *
    generalize cs.length = lc at *
    clear hw hu
    go_enter Tryz.func56, Tryz.ntmps56
    go_wp2
    have d0 : (w.alloc (.cells #[.int .i64 seg, .slice wa lw wc, .slice ka n kc, .slice va lv vc, .slice ca lc cc, .int .u64 laid] 29)).cell? ⟨w.heap.size, 0, none⟩ = some (.int .i64 seg) := by (exact xcw)
    have d1 : (w.alloc (.cells #[.int .i64 seg, .slice wa lw wc, .slice ka n kc, .slice va lv vc, .slice ca lc cc, .int .u64 laid] 29)).cell? ⟨w.heap.size, 1, none⟩ = some (.slice wa lw wc) := by (exact xcw)
    have d3 : (w.alloc (.cells #[.int .i64 seg, .slice wa lw wc, .slice ka n kc, .slice va lv vc, .slice ca lc cc, .int .u64 laid] 29)).cell? ⟨w.heap.size, 3, none⟩ = some (.slice va lv vc) := by (exact xcw)
    have d4 : (w.alloc (.cells #[.int .i64 seg, .slice wa lw wc, .slice ka n kc, .slice va lv vc, .slice ca lc cc, .int .u64 laid] 29)).cell? ⟨w.heap.size, 4, none⟩ = some (.slice ca lc cc) := by (exact xcw)
    have HB0 : Hid (Below w.heap.size w (w.alloc (.cells #[.int .i64 seg, .slice wa lw wc, .slice ka n kc, .slice va lv vc, .slice ca lc cc, .int .u64 laid] 29))) := Lib.hid ((Below.refl _ _).alloc (Nat.le_refl _) _)
    generalize (w.alloc (.cells #[.int .i64 seg, .slice wa lw wc, .slice ka n kc, .slice va lv vc, .slice ca lc cc, .int .u64 laid] 29)) = w1 at *
    have Q1 := Lib.hid (fun q => Calls.quiet_of_same ((F1.out (w1.drewN q)).mono fun _ _ h => ⟨h.1, h.2.symm⟩))
    go_quiet (exact Q1.out _)
    go_wp2
    go_ret
    exact ⟨rfl, below_drewN HB0.out _⟩
  | true =>
    rw [hf] at F1 hh
    obtain ⟨f1, f2, -, f4, f5, f6, -⟩ := fitB_facts hf
    have O1 := Lib.hid (fun w hw => occCheck_ok wa wc ws hu ks.length (by omega) hl w hw)
    clear hf
    by_cases c2 : vs.length = ks.length
    · have hv1 : ((vs.length : Int) != (ks.length : Int)) = false := by simp [c2]
      rw [decide_eq_true c2, Bool.true_and, Bool.true_and] at hh
      cases hwm : wMayB ws ks.length with
      | true =>
        rw [hwm, Bool.true_and, decide_eq_false_iff_not] at hh
        rw [hwm, if_pos rfl] at O1
        have hd0 : 0 ≤ (ks.length : Int) / seg := Int.ediv_nonneg (by omega) (by omega)
        have hd1 : (ks.length : Int) / seg ≤ ks.length := Int.ediv_le_self _ (by omega)
        have hqM : ((cs.length : Int) != wrap64 ((ks.length : Int) / seg)) = true := by
          rw [IntWalk.wrap64_in _ (by omega)]
          simpa using hh
        have htd : (ks.length : Int).tdiv seg = (ks.length : Int) / seg := Int.tdiv_eq_ediv_of_nonneg (by omega)
        have hS0 : (seg == 0) = false := by simp; omega
        clear hh hwm hd0 hd1 c2
        generalize ws.length = lw at *
        generalize ks.length = n at *
        generalize vs.length = lv at *
        generalize cs.length = lc at *
        clear hw hu
        go_enter Tryz.func56, Tryz.ntmps56
        go_wp2
        have d0 : (w.alloc (.cells #[.int .i64 seg, .slice wa lw wc, .slice ka n kc, .slice va lv vc, .slice ca lc cc, .int .u64 laid] 29)).cell? ⟨w.heap.size, 0, none⟩ = some (.int .i64 seg) := by (exact xcw)
        have d1 : (w.alloc (.cells #[.int .i64 seg, .slice wa lw wc, .slice ka n kc, .slice va lv vc, .slice ca lc cc, .int .u64 laid] 29)).cell? ⟨w.heap.size, 1, none⟩ = some (.slice wa lw wc) := by (exact xcw)
        have d3 : (w.alloc (.cells #[.int .i64 seg, .slice wa lw wc, .slice ka n kc, .slice va lv vc, .slice ca lc cc, .int .u64 laid] 29)).cell? ⟨w.heap.size, 3, none⟩ = some (.slice va lv vc) := by (exact xcw)
        have d4 : (w.alloc (.cells #[.int .i64 seg, .slice wa lw wc, .slice ka n kc, .slice va lv vc, .slice ca lc cc, .int .u64 laid] 29)).cell? ⟨w.heap.size, 4, none⟩ = some (.slice ca lc cc) := by (exact xcw)
        have HB0 : Hid (Below w.heap.size w (w.alloc (.cells #[.int .i64 seg, .slice wa lw wc, .slice ka n kc, .slice va lv vc, .slice ca lc cc, .int .u64 laid] 29))) := Lib.hid ((Below.refl _ _).alloc (Nat.le_refl _) _)
        generalize (w.alloc (.cells #[.int .i64 seg, .slice wa lw wc, .slice ka n kc, .slice va lv vc, .slice ca lc cc, .int .u64 laid] 29)) = w1 at *
        have Q1 := Lib.hid (fun q => Calls.quiet_of_same ((F1.out (w1.drewN q)).mono fun _ _ h => ⟨h.1, h.2.symm⟩))
        have Q2 := Lib.hid (fun q => Calls.quiet_of_same ((O1.out (w1.drewN q) (HW.out.below (below_drewN HB0.out q))).mono fun _ _ h => ⟨h.1, h.2.symm⟩))
        go_quiet (first | exact Q1.out _ | exact Q2.out _)
        go_wp2
        go_ret
        exact ⟨rfl, below_drewN HB0.out _⟩
      | false =>
        rw [hwm, if_neg (by decide)] at O1
        clear hh hwm c2
        generalize ws.length = lw at *
        generalize ks.length = n at *
        generalize vs.length = lv at *
        generalize cs.length = lc at *
        clear hw hu
        go_enter Tryz.func56, Tryz.ntmps56
        go_wp2
        have d0 : (w.alloc (.cells #[.int .i64 seg, .slice wa lw wc, .slice ka n kc, .slice va lv vc, .slice ca lc cc, .int .u64 laid] 29)).cell? ⟨w.heap.size, 0, none⟩ = some (.int .i64 seg) := by (exact xcw)
        have d1 : (w.alloc (.cells #[.int .i64 seg, .slice wa lw wc, .slice ka n kc, .slice va lv vc, .slice ca lc cc, .int .u64 laid] 29)).cell? ⟨w.heap.size, 1, none⟩ = some (.slice wa lw wc) := by (exact xcw)
        have d3 : (w.alloc (.cells #[.int .i64 seg, .slice wa lw wc, .slice ka n kc, .slice va lv vc, .slice ca lc cc, .int .u64 laid] 29)).cell? ⟨w.heap.size, 3, none⟩ = some (.slice va lv vc) := by (exact xcw)
        have d4 : (w.alloc (.cells #[.int .i64 seg, .slice wa lw wc, .slice ka n kc, .slice va lv vc, .slice ca lc cc, .int .u64 laid] 29)).cell? ⟨w.heap.size, 4, none⟩ = some (.slice ca lc cc) := by (exact xcw)
        have HB0 : Hid (Below w.heap.size w (w.alloc (.cells #[.int .i64 seg, .slice wa lw wc, .slice ka n kc, .slice va lv vc, .slice ca lc cc, .int .u64 laid] 29))) := Lib.hid ((Below.refl _ _).alloc (Nat.le_refl _) _)
        generalize (w.alloc (.cells #[.int .i64 seg, .slice wa lw wc, .slice ka n kc, .slice va lv vc, .slice ca lc cc, .int .u64 laid] 29)) = w1 at *
        have Q1 := Lib.hid (fun q => Calls.quiet_of_same ((F1.out (w1.drewN q)).mono fun _ _ h => ⟨h.1, h.2.symm⟩))
        have Q2 := Lib.hid (fun q => Calls.quiet_of_same ((O1.out (w1.drewN q) (HW.out.below (below_drewN HB0.out q))).mono fun _ _ h => ⟨h.1, h.2.symm⟩))
        go_quiet (first | exact Q1.out _ | exact Q2.out _)
        go_wp2
        go_ret
        exact ⟨rfl, below_drewN HB0.out _⟩
    · have hv1 : ((vs.length : Int) != (ks.length : Int)) = true := by simp; omega
      clear hh c2
      generalize ws.length = lw at *
      generalize ks.length = n at *
      generalize vs.length = lv at *
      generalize cs.length = lc at *
      clear hw hu
      go_enter Tryz.func56, Tryz.ntmps56
      go_wp2
      have d0 : (w.alloc (.cells #[.int .i64 seg, .slice wa lw wc, .slice ka n kc, .slice va lv vc, .slice ca lc cc, .int .u64 laid] 29)).cell? ⟨w.heap.size, 0, none⟩ = some (.int .i64 seg) := by (exact xcw)
      have d1 : (w.alloc (.cells #[.int .i64 seg, .slice wa lw wc, .slice ka n kc, .slice va lv vc, .slice ca lc cc, .int .u64 laid] 29)).cell? ⟨w.heap.size, 1, none⟩ = some (.slice wa lw wc) := by (exact xcw)
      have d3 : (w.alloc (.cells #[.int .i64 seg, .slice wa lw wc, .slice ka n kc, .slice va lv vc, .slice ca lc cc, .int .u64 laid] 29)).cell? ⟨w.heap.size, 3, none⟩ = some (.slice va lv vc) := by (exact xcw)
      have d4 : (w.alloc (.cells #[.int .i64 seg, .slice wa lw wc, .slice ka n kc, .slice va lv vc, .slice ca lc cc, .int .u64 laid] 29)).cell? ⟨w.heap.size, 4, none⟩ = some (.slice ca lc cc) := by (exact xcw)
      have HB0 : Hid (Below w.heap.size w (w.alloc (.cells #[.int .i64 seg, .slice wa lw wc, .slice ka n kc, .slice va lv vc, .slice ca lc cc, .int .u64 laid] 29))) := Lib.hid ((Below.refl _ _).alloc (Nat.le_refl _) _)
      generalize (w.alloc (.cells #[.int .i64 seg, .slice wa lw wc, .slice ka n kc, .slice va lv vc, .slice ca lc cc, .int .u64 laid] 29)) = w1 at *
      have Q1 := Lib.hid (fun q => Calls.quiet_of_same ((F1.out (w1.drewN q)).mono fun _ _ h => ⟨h.1, h.2.symm⟩))
      go_quiet (exact Q1.out _)
      go_wp2
      go_ret
      exact ⟨rfl, below_drewN HB0.out _⟩

theorem slCheck_ok (c : SlC) (a : SlA) (hl : c.ws.length ≤ 1000000000000) (hl2 : c.ks.length ≤ 1000000000000) (w : World) (hin : SlIn w c a) :
    Calls Tryz.prog 56 #[slV c a] w (AnsB w (.int .i64 (slE c))) := by
  cases hh : slHead c with
  | true => exact slCheck_in c a hh w hin
  | false => exact slCheck_bad c a hh hl hl2 w hin
end
end Go.Proofs.YtjhpblejlchhjaaGreat

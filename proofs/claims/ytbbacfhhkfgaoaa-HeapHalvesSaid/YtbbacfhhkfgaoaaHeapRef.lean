/- Walks of the reference 16. -/
import Derived.Test.YtbbacfhhkfgaoaaHeapPath
namespace Go.Proofs.Ytbbacfhhkfgaoaa
open Go.RowKit Go.Shelf
attribute [local go_sem] Oper.semAt_some
set_option linter.unusedVariables false
set_option linter.unusedSimpArgs false

theorem Log_ok (n : Nat) (ni : Int) (hn : ni = n) (h1 : n < 16384) (w : World) :
    Calls Try.prog 37 #[.int .i64 ni] w fun e w' => e = .returned (.int .i64 (n.log2 : Nat)) ∧ w = w' := by
  subst hn
  go_enter Try.func37, Try.ntmps37
  go_wp2
  go_loopg [0, 3] n (fun g x i wr => ∃ (b k : Nat), b = g ∧ b ≤ n ∧ x = .int .i64 b ∧ i = .int .i64 k ∧ k + b.log2 = n.log2 ∧ wr = w)
  case atStart => exact ⟨n, 0, rfl, Nat.le_refl _, rfl, rfl, by omega, rfl⟩
  case round =>
    obtain ⟨b, k, rfl, hbn, rfl, rfl, hk, rfl⟩ := hrel
    have hlog : n.log2 ≤ n := Nat.log2_le_self n
    have hkb : k ≤ 16384 := by omega
    by_cases h : 2 ≤ b
    · have h2 := log2_two h
      have H2 := Lib.hid (And.intro h2 hk)
      clear h2 hk hlog
      go_wp2
      go_roundg (b / 2)
      case measure => omega
      case rel => exact ⟨b / 2, k + 1, rfl, by omega, by go_num, by go_num, by have := H2.out; omega, rfl⟩
    · have h2 := log2_one (n := b) (by omega)
      have H2 := Lib.hid (And.intro h2 hk)
      clear h2 hk hlog
      go_wp2
      go_ret
      exact ⟨ret_int (by have := H2.out; omega), rfl⟩
theorem Deep_ok (n : Nat) (ni : Int) (hn : ni = n) (h1 : n < 16384) (w : World) :
    Calls Try.prog 31 #[.int .i64 ni] w fun e w' => e = .returned (.int .i64 (n.log2 : Nat)) ∧ w = w' := by
  subst hn
  go_enter Try.func31, Try.ntmps31
  go_wp2_with (go_at_call 37; refine (Log_ok n _ rfl h1 _).mono ?_; rintro e w' ⟨rfl, rfl⟩)
  go_ret
  exact ⟨rfl, rfl⟩
theorem First_ok (l : Int) (h1 : 1 ≤ l) (h2 : l ≤ 14) (w : World) :
    Calls Try.prog 29 #[.int .i64 l] w fun e w' => e = .returned (.int .i64 (2 ^ (l.toNat - 1))) ∧ w = w' := by
  have e : (l - 1).toNat = l.toNat - 1 := by omega
  have E := Lib.hid (fun w => Pow_ok (l - 1) (by omega) (by omega) w)
  rw [e] at E
  clear e
  go_enter Try.func29, Try.ntmps29
  go_wp2_with fail
  refine (E.out _).mono ?_
  rintro e w' ⟨rfl, rfl⟩
  go_wp2
  go_ret
  exact ⟨rfl, rfl⟩

theorem Has_yes (l n : Int) (h : ndE l n = 0) (w : World) :
    Calls Try.prog 30 #[.int .i64 l, .int .i64 n] w fun e w' => e = .returned (.bool true) ∧ w = w' := by
  obtain ⟨h1, h2, h3, h4⟩ := ndE_zero h
  obtain ⟨hp1, hp2⟩ := pow_bdI l h2
  have h5 : n ≤ 2 ^ l.toNat - 1 := by omega
  have h6 : decide (n < 2 ^ l.toNat) = true := by simpa using h4
  clear h h4
  go_enter Try.func30, Try.ntmps30
  go_wp2_with (first
    | (go_at_call 27; refine (Is16_yes _ h1 h2 _).mono ?_; rintro e w' ⟨rfl, rfl⟩)
    | (go_at_call 28; refine (Many16_ok _ (by omega) h2 _).mono ?_; rintro e w' ⟨rfl, rfl⟩))
  go_ret
  exact ⟨by simp <;> omega, rfl⟩
theorem Has_no (l n : Int) (h : ¬ ndE l n = 0) (w : World) :
    Calls Try.prog 30 #[.int .i64 l, .int .i64 n] w fun e w' => e = .returned (.bool false) ∧ w = w' := by
  by_cases hl : 1 ≤ l ∧ l ≤ 14
  · obtain ⟨h1, h2⟩ := hl
    obtain ⟨hp1, hp2⟩ := pow_bdI l h2
    by_cases h3 : 1 ≤ n
    · have h4 : 2 ^ l.toNat ≤ n := by
        by_cases h5 : n < 2 ^ l.toNat
        · exact absurd (ndE_ok h1 h2 h3 h5) h
        · omega
      have h5 : ¬ (n ≤ 2 ^ l.toNat - 1) := by omega
      clear h
      go_enter Try.func30, Try.ntmps30
      go_wp2_with (first
        | (go_at_call 27; refine (Is16_yes _ h1 h2 _).mono ?_; rintro e w' ⟨rfl, rfl⟩)
        | (go_at_call 28; refine (Many16_ok _ (by omega) h2 _).mono ?_; rintro e w' ⟨rfl, rfl⟩))
      go_ret
      exact ⟨by simp <;> omega, rfl⟩
    · clear h
      go_enter Try.func30, Try.ntmps30
      go_wp2_with (go_at_call 27; refine (Is16_yes _ h1 h2 _).mono ?_; rintro e w' ⟨rfl, rfl⟩)
      go_ret
      exact ⟨by simp <;> omega, rfl⟩
  · clear h
    go_enter Try.func30, Try.ntmps30
    go_wp2_with (go_at_call 27; refine (Is16_no _ (by omega) _).mono ?_; rintro e w' ⟨rfl, rfl⟩)
    go_ret
    exact ⟨rfl, rfl⟩

theorem Leaf16_any (l k : Int) (w : World) :
    Calls Try.prog 16 #[.int .i64 l, .int .i64 k] w fun e w' => e = .returned (.tuple #[.int .i64 (lfR l k), .int .i64 (lfE l k)]) ∧ w = w' := by
  by_cases hl : 1 ≤ l ∧ l ≤ 14
  · obtain ⟨h1, h2⟩ := hl
    obtain ⟨hp1, hp2⟩ := pow_bd (l.toNat - 1) (by omega)
    by_cases hc : 0 ≤ k ∧ k < 2 ^ (l.toNat - 1)
    · obtain ⟨hk, hm⟩ := hc
      have hv : lfE l k = 0 := by simp only [lfE, h1, h2, hk, hm, and_self, if_true]
      have hr : lfR l k = 2 ^ (l.toNat - 1) + k := by rw [lfR, hv]; rfl
      rw [hv, hr]
      clear hv hr
      go_enter Try.func16, Try.ntmps16
      go_wp2_with (first
        | (go_at_call 27; refine (Is16_yes _ h1 h2 _).mono ?_; rintro e w' ⟨rfl, rfl⟩)
        | (go_at_call 29; refine (First_ok _ h1 h2 _).mono ?_; rintro e w' ⟨rfl, rfl⟩))
      go_ret2
      exact ⟨rfl, rfl⟩
    · have hv : lfE l k = 2 := by simp only [lfE, hc, and_false, if_false]
      have hr : lfR l k = 0 := by rw [lfR, hv]; rfl
      rw [hv, hr]
      clear hv hr
      have hsp : k < 0 ∨ (0 ≤ k ∧ 2 ^ (l.toNat - 1) ≤ k) := by omega
      clear hc
      rcases hsp with hk | ⟨hk, hm⟩
      all_goals
        go_enter Try.func16, Try.ntmps16
        go_wp2_with (first
          | (go_at_call 27; refine (Is16_yes _ h1 h2 _).mono ?_; rintro e w' ⟨rfl, rfl⟩)
          | (go_at_call 29; refine (First_ok _ h1 h2 _).mono ?_; rintro e w' ⟨rfl, rfl⟩))
        go_ret2
        exact ⟨rfl, rfl⟩
  · have hv : lfE l k = 2 := by simp only [lfE, hl, false_and, if_false]
    have hr : lfR l k = 0 := by rw [lfR, hv]; rfl
    rw [hv, hr]
    clear hv hr
    go_enter Try.func16, Try.ntmps16
    go_wp2_with (go_at_call 27; refine (Is16_no _ (by omega) _).mono ?_; rintro e w' ⟨rfl, rfl⟩)
    go_ret2
    exact ⟨rfl, rfl⟩

theorem Depth16_any (l n : Int) (w : World) :
    Calls Try.prog 17 #[.int .i64 l, .int .i64 n] w fun e w' => e = .returned (.tuple #[.int .i64 (dpR l n), .int .i64 (ndE l n)]) ∧ w = w' := by
  by_cases h : ndE l n = 0
  · obtain ⟨h1, h2, h3, h4⟩ := ndE_zero h
    have hp := (pow_bdI l h2).2
    obtain ⟨N, rfl⟩ := Int.eq_ofNat_of_zero_le (show 0 ≤ n by omega)
    have hr : dpR l N = (N.log2 : Nat) := by rw [dpR, h]; rfl
    have HH := Lib.hid (fun w => Has_yes l N h w)
    rw [hr, h]
    have hN : N < 16384 := by omega
    clear h hr h4 hp
    go_enter Try.func17, Try.ntmps17
    go_wp2_with fail
    refine (HH.out _).mono ?_
    rintro e w' ⟨rfl, rfl⟩
    go_wp2_with (go_at_call 31; refine (Deep_ok N _ rfl hN _).mono ?_; rintro e w' ⟨rfl, rfl⟩)
    go_ret2
    exact ⟨rfl, rfl⟩
  · have h2 := ndE_no h
    have hr : dpR l n = 0 := by rw [dpR, h2]; rfl
    have HH := Lib.hid (fun w => Has_no l n h w)
    rw [hr, h2]
    clear h h2 hr
    go_enter Try.func17, Try.ntmps17
    go_wp2_with fail
    refine (HH.out _).mono ?_
    rintro e w' ⟨rfl, rfl⟩
    go_wp2
    go_ret2
    exact ⟨rfl, rfl⟩

theorem Split16_any (l : Int) (w : World) :
    Calls Try.prog 20 #[.int .i64 l] w fun e w' => e = .returned (.tuple #[.int .i64 (spU l), .int .i64 (spL l), .int .i64 (spE l)]) ∧ w = w' := by
  by_cases hl : 1 ≤ l ∧ l ≤ 14
  · obtain ⟨g1, g2⟩ := hl
    by_cases h1 : l = 1
    · subst h1
      have hv : spE 1 = 6 := by simp [spE]
      rw [spU, spL, hv]
      clear hv
      go_enter Try.func20, Try.ntmps20
      go_wp2_with (go_at_call 27; refine (Is16_yes _ g1 g2 _).mono ?_; rintro e w' ⟨rfl, rfl⟩)
      go_ret3
      exact ⟨rfl, rfl⟩
    · have hv : spE l = 0 := by simp [spE, g1, g2, h1]
      have hu : spU l = l / 2 := by rw [spU, hv]; rfl
      have hw : spL l = l - l / 2 := by rw [spL, hv]; simp; omega
      rw [hu, hw, hv]
      have e1 : (l == 1) = false := by simpa using h1
      have e2 : 2 ≤ l := by omega
      clear hu hw hv h1
      go_enter Try.func20, Try.ntmps20
      go_wp2_with (go_at_call 27; refine (Is16_yes _ g1 g2 _).mono ?_; rintro e w' ⟨rfl, rfl⟩)
      go_ret3
      exact ⟨rfl, rfl⟩
  · have hv : spE l = 2 := by simp [spE, hl]
    rw [spU, spL, hv]
    clear hv
    go_enter Try.func20, Try.ntmps20
    go_wp2_with (go_at_call 27; refine (Is16_no _ (by omega) _).mono ?_; rintro e w' ⟨rfl, rfl⟩)
    go_ret3
    exact ⟨rfl, rfl⟩

set_option maxHeartbeats 400000 in
theorem To_ok : ∀ (m n : Nat) (ni : Int) (w : World), ni = n → n ≤ m → 1 ≤ n → n < 16384 →
    Calls Try.prog 32 #[.int .i64 ni] w (FreshInts w (ints (pth n))) := by
  intro m
  induction m with
  | zero => intro n ni w _ h1 h2; omega
  | succ m ih =>
    intro n ni w hn h1 h2 h3
    subst hn
    have IH := Lib.hid ih
    clear ih
    by_cases h : n = 1
    · subst h
      go_enter Try.func32, Try.ntmps32
      go_wp2
      go_ret
      refine ⟨_, rfl, ?_, (Below.refl _ _).alloc (Nat.le_refl _) _⟩
      rw [pth_one (Nat.le_refl _)]
      exact World.ownsRow_lit w #[.int .i64 1] 1 (Nat.le_refl _) (by decide) rfl
    · have e1 : ((n : Int) == 1) = false := by simp; omega
      have hp := pth_two (n := n) (by omega)
      have hl : (ints (pth (n / 2))).length ≤ 16384 := by
        rw [ints_length, pth_length]
        have := Nat.log2_le_self (n / 2)
        omega
      have HP := Lib.hid hp
      have hn2 : 2 ≤ n := by omega
      clear hp h
      go_enter Try.func32, Try.ntmps32
      go_wp2_with fail
      refine (IH.out (n / 2) _ _ (by omega) (by omega) (by omega) (by omega)).mono ?_
      rintro e w1 ⟨v1, rfl, ho1, hb1⟩
      have hz1 := hb1.size
      go_wp2_with (at_builtin; refine wpl_append (.tmp 8) (.tmp 10) 32 3 (.int .i64 0) 1 8 Try.underlying32 info_int rfl (by decide) (by decide) w.heap.size v1 _ _ (some ⟨w1.heap.size, 0, none⟩) 1 1 [.int .i64 n] (ho1.alloc _) rfl (fun h => by cases h) (new_cells _ [.int .i64 n] _ _ rfl) (by simp [Value.oneCell']) (by omega) (by simp; omega) rfl rfl rfl rfl ?_; intro v2 w2 ho2 hg2 _)
      go_ret
      refine ⟨_, rfl, ?_, (hb1.alloc hz1 _).grown hg2 (by simp; omega) (fun z hz => (ho1.lt z hz).1)⟩
      rw [HP.out, ints_append]
      simpa [ints] using ho2
theorem Path16_any (l n : Int) (w : World) :
    Calls Try.prog 18 #[.int .i64 l, .int .i64 n] w (FreshInts2 w (ptR l n) (.int .i64 (ndE l n))) := by
  by_cases h : ndE l n = 0
  · obtain ⟨h1, h2, h3, h4⟩ := ndE_zero h
    have hp := (pow_bdI l h2).2
    obtain ⟨N, rfl⟩ := Int.eq_ofNat_of_zero_le (show 0 ≤ n by omega)
    have hr : ptR l N = ints (pth N) := by rw [ptR, h]; rfl
    have HH := Lib.hid (fun w => Has_yes l N h w)
    rw [hr, h]
    have hN : N < 16384 := by omega
    clear h hr h4 hp
    go_enter Try.func18, Try.ntmps18
    go_wp2_with fail
    refine (HH.out _).mono ?_
    rintro e w' ⟨rfl, rfl⟩
    go_wp2_with fail
    refine (To_ok N N _ _ rfl (Nat.le_refl _) (by omega) hN).mono ?_
    rintro e w1 ⟨v1, rfl, ho1, hb1⟩
    go_wp2
    go_ret2
    exact ⟨_, rfl, ho1, hb1⟩
  · have h2 := ndE_no h
    have hr : ptR l n = [] := by rw [ptR, h2]; rfl
    have HH := Lib.hid (fun w => Has_no l n h w)
    rw [hr, h2]
    clear h h2 hr
    go_enter Try.func18, Try.ntmps18
    go_wp2_with fail
    refine (HH.out _).mono ?_
    rintro e w' ⟨rfl, rfl⟩
    go_wp2
    go_ret2
    exact ⟨_, rfl, World.ownsRow_nil _ _ _ _, Below.refl _ _⟩

/-- where a node of so many levels stands: ahead of the last level, or on it -/
theorem under_lt {n d j t : Nat} (h1 : n.log2 = d) (hn : 1 ≤ n) (h2 : j < t) : n * 2 ^ j < 2 ^ (d + t) := by
  subst h1
  have h3 : n < 2 ^ (n.log2 + 1) := (Nat.log2_lt (by omega)).1 (Nat.lt_succ_self _)
  calc n * 2 ^ j < 2 ^ (n.log2 + 1) * 2 ^ j := Nat.mul_lt_mul_of_pos_right h3 (Nat.two_pow_pos j)
    _ = 2 ^ (n.log2 + 1 + j) := by rw [← Nat.pow_add]
    _ ≤ 2 ^ (n.log2 + t) := Nat.pow_le_pow_right (by omega) (by omega)
theorem under_ge {n d t : Nat} (h1 : n.log2 = d) (hn : 1 ≤ n) : 2 ^ (d + t) ≤ n * 2 ^ t := by
  subst h1
  rw [Nat.pow_add]
  exact Nat.mul_le_mul_right _ ((Nat.le_log2 (by omega)).1 (Nat.le_refl _))

set_option maxHeartbeats 400000 in
theorem Under16_any (l n : Int) (w : World) :
    Calls Try.prog 19 #[.int .i64 l, .int .i64 n] w fun e w' => e = .returned (.tuple #[.int .i64 (unA l n), .int .i64 (unB l n), .int .i64 (ndE l n)]) ∧ w = w' := by
  by_cases h : ndE l n = 0
  · obtain ⟨h1, h2, h3, h4⟩ := ndE_zero h
    have hp := (pow_bdI l h2).2
    obtain ⟨N, rfl⟩ := Int.eq_ofNat_of_zero_le (show 0 ≤ n by omega)
    have hlt := (under_bd h1 h2 h3 h4).1
    simp only [Int.toNat_natCast] at hlt
    obtain ⟨t, ht⟩ : ∃ t, t = l.toNat - 1 - N.log2 := ⟨_, rfl⟩
    have hA : unA l N = N * 2 ^ t - 2 ^ (l.toNat - 1) := by rw [unA, h, fst, ht]; rfl
    have hB : unB l N = N * 2 ^ t - 2 ^ (l.toNat - 1) + 2 ^ t := by rw [unB, h, fst, cnt, ht]; rfl
    have HH := Lib.hid (fun w => Has_yes l N h w)
    have HF := Lib.hid (fun w => First_ok l h1 h2 w)
    obtain ⟨p1, p2⟩ := pow_bd (l.toNat - 1) (by omega)
    have hN : N < 16384 := by omega
    rw [hA, hB, h]
    have hpc : ((2 ^ (l.toNat - 1) : Nat) : Int) = 2 ^ (l.toNat - 1) := by push_cast; rfl
    have hsum : N.log2 + t = l.toNat - 1 := by omega
    have ht14 : t ≤ 13 := by omega
    have key1 : ∀ j, j < t → (N : Int) * 2 ^ j < 2 ^ (l.toNat - 1) := by
      intro j hj
      have := under_lt (n := N) rfl (by omega) hj
      rw [hsum] at this
      have e : ((N * 2 ^ j : Nat) : Int) = (N : Int) * 2 ^ j := by push_cast; rfl
      rw [← e, ← hpc]; omega
    have key2 : (2 : Int) ^ (l.toNat - 1) ≤ (N : Int) * 2 ^ t := by
      have := under_ge (n := N) (t := t) rfl (by omega)
      rw [hsum] at this
      have e : ((N * 2 ^ t : Nat) : Int) = (N : Int) * 2 ^ t := by push_cast; rfl
      rw [← e, ← hpc]; omega
    have K1 := Lib.hid key1
    have K2 := Lib.hid key2
    clear h hA hB ht hpc hsum hlt h4 hp key1 key2
    generalize (2 : Int) ^ (l.toNat - 1) = F at *
    go_enter Try.func19, Try.ntmps19
    go_wp2_with fail
    refine (HH.out _).mono ?_
    rintro e w' ⟨rfl, rfl⟩
    go_wp2
    go_loopg [7, 8] t (fun g a b wr => ∃ j : Nat, j + g = t ∧ a = .int .i64 ((N : Int) * 2 ^ j) ∧ b = .int .i64 ((N : Int) * 2 ^ j + 2 ^ j - 1) ∧ wr = w)
    case atStart => exact ⟨0, by omega, by simp, by simp, rfl⟩
    case round =>
      obtain ⟨j, hj, rfl, rfl, rfl⟩ := hrel
      obtain ⟨q1, q2⟩ := pow_bd j (by omega)
      have e1 : (N : Int) * 2 ^ (j + 1) = 2 * ((N : Int) * 2 ^ j) := by rw [Int.pow_succ, ← Int.mul_assoc, Int.mul_comm]
      have e2 : (2 : Int) ^ (j + 1) = 2 * 2 ^ j := by rw [Int.pow_succ, Int.mul_comm]
      have hm1 : (N : Int) * 2 ^ j ≤ 16384 * 16384 := Int.mul_le_mul (by omega) q2 (by omega) (by omega)
      have hm0 : 0 ≤ (N : Int) * 2 ^ j := Int.mul_nonneg (by omega) (by omega)
      by_cases hlt : j < t
      · have hc := K1.out j hlt
        obtain ⟨X, hX⟩ : ∃ X, (N : Int) * 2 ^ j = X := ⟨_, rfl⟩
        obtain ⟨Y, hY⟩ : ∃ Y, (2 : Int) ^ j = Y := ⟨_, rfl⟩
        rw [hX] at hm1 hm0 hc e1
        rw [hY] at q1 q2 e2
        have E := Lib.hid (And.intro e1 e2)
        rw [hX, hY]
        clear e1 e2 hX hY
        go_wp2_with (go_at_call 29; refine (HF.out _).mono ?_; rintro e w' ⟨rfl, rfl⟩)
        go_roundg (gk - 1)
        case measure => omega
        case rel =>
          obtain ⟨e1, e2⟩ := E.out
          exact ⟨j + 1, by omega, by rw [e1], by rw [e1, e2]; go_num, rfl⟩
      · obtain rfl : j = t := by omega
        have hc := K2.out
        obtain ⟨X, hX⟩ : ∃ X, (N : Int) * 2 ^ j = X := ⟨_, rfl⟩
        obtain ⟨Y, hY⟩ : ∃ Y, (2 : Int) ^ j = Y := ⟨_, rfl⟩
        rw [hX] at hm1 hm0 hc
        rw [hY] at q1 q2
        rw [hX, hY]
        have e3 : (N : Int) * 2 ^ j - F + 2 ^ j = X + Y - 1 - F + 1 := by rw [hX, hY]; omega
        have E3 := Lib.hid (And.intro e3 (show (N : Int) * 2 ^ j - F = X - F by rw [hX]))
        clear e1 e2 hX hY e3
        go_wp2_with (go_at_call 29; refine (HF.out _).mono ?_; rintro e w' ⟨rfl, rfl⟩)
        go_ret3
        exact ⟨by rw [E3.out.1, E3.out.2]; rfl, rfl⟩
  · have h2 := ndE_no h
    have hA : unA l n = 0 := by rw [unA, h2]; rfl
    have hB : unB l n = 0 := by rw [unB, h2]; rfl
    have HH := Lib.hid (fun w => Has_no l n h w)
    rw [hA, hB, h2]
    clear h h2 hA hB
    go_enter Try.func19, Try.ntmps19
    go_wp2_with fail
    refine (HH.out _).mono ?_
    rintro e w' ⟨rfl, rfl⟩
    go_wp2
    go_ret3
    exact ⟨rfl, rfl⟩
end Go.Proofs.Ytbbacfhhkfgaoaa

/- Walks of the reference 16: depths and paths. -/
import Derived.Test.YtammdgffdgegfaaHeapPath
namespace Go.Proofs.Ytammdgffdgegfaa
open Go.RowKit Go.Shelf
attribute [local go_sem] Oper.semAt_some
set_option linter.unusedVariables false
set_option linter.unusedSimpArgs false

theorem Log_ok (n : Nat) (ni : Int) (hn : ni = n) (h1 : n < 16384) (w : World) :
    Calls Try.prog 44 #[.int .i64 ni] w fun e w' => e = .returned (.int .i64 (n.log2 : Nat)) ∧ w = w' := by
  subst hn
  go_enter Try.func44, Try.ntmps44
  go_wp2
  go_loopg [0, 3] n (fun g x i wr => ∃ (b k : Nat), b = g ∧ b ≤ n ∧ x = .int .i64 b ∧ i = .int .i64 k ∧ k + b.log2 = n.log2 ∧ wr = w)
  case atStart => exact ⟨n, 0, rfl, Nat.le_refl _, rfl, rfl, by omega, rfl⟩
  case round =>
    obtain ⟨b, k, rfl, hbn, rfl, rfl, hk, rfl⟩ := hrel
    have hlog : n.log2 ≤ n := Nat.log2_le_self n
    have hkb : k ≤ 16384 := by omega
    by_cases h : 2 ≤ b
    · have h2 := log2_two h
      have H2 := Lib.hid (And.intro h2 hk)
      clear h2 hk hlog
      go_wp2
      go_roundg (b / 2)
      case measure => omega
      case rel => exact ⟨b / 2, k + 1, rfl, by omega, by go_num, by go_num, by have := H2.out; omega, rfl⟩
    · have h2 := log2_one (n := b) (by omega)
      have H2 := Lib.hid (And.intro h2 hk)
      clear h2 hk hlog
      go_wp2
      go_ret
      exact ⟨ret_int (by have := H2.out; omega), rfl⟩
theorem Deep_ok (n : Nat) (ni : Int) (hn : ni = n) (h1 : n < 16384) (w : World) :
    Calls Try.prog 41 #[.int .i64 ni] w fun e w' => e = .returned (.int .i64 (n.log2 : Nat)) ∧ w = w' := by
  subst hn
  go_enter Try.func41, Try.ntmps41
  go_wp2_with (go_at_call 44; refine (Log_ok n _ rfl h1 _).mono ?_; rintro e w' ⟨rfl, rfl⟩)
  go_ret
  exact ⟨rfl, rfl⟩
theorem Has_yes (l n : Int) (h : ndE l n = 0) (w : World) :
    Calls Try.prog 40 #[.int .i64 l, .int .i64 n] w fun e w' => e = .returned (.bool true) ∧ w = w' := by
  obtain ⟨h1, h2, h3, h4⟩ := ndE_zero h
  obtain ⟨hp1, hp2⟩ := pow_bdI l h2
  have h5 : n ≤ 2 ^ l.toNat - 1 := by omega
  have h6 : decide (n < 2 ^ l.toNat) = true := by simpa using h4
  clear h h4
  go_enter Try.func40, Try.ntmps40
  go_wp2_with (first
    | (go_at_call 35; refine (Is16_yes _ h1 h2 _).mono ?_; rintro e w' ⟨rfl, rfl⟩)
    | (go_at_call 36; refine (Many16_ok _ (by omega) h2 _).mono ?_; rintro e w' ⟨rfl, rfl⟩))
  go_ret
  exact ⟨by simp <;> omega, rfl⟩
theorem Has_no (l n : Int) (h : ¬ ndE l n = 0) (w : World) :
    Calls Try.prog 40 #[.int .i64 l, .int .i64 n] w fun e w' => e = .returned (.bool false) ∧ w = w' := by
  by_cases hl : 1 ≤ l ∧ l ≤ 14
  · obtain ⟨h1, h2⟩ := hl
    obtain ⟨hp1, hp2⟩ := pow_bdI l h2
    by_cases h3 : 1 ≤ n
    · have h4 : 2 ^ l.toNat ≤ n := by
        by_cases h5 : n < 2 ^ l.toNat
        · exact absurd (ndE_ok h1 h2 h3 h5) h
        · omega
      have h5 : ¬ (n ≤ 2 ^ l.toNat - 1) := by omega
      clear h
      go_enter Try.func40, Try.ntmps40
      go_wp2_with (first
        | (go_at_call 35; refine (Is16_yes _ h1 h2 _).mono ?_; rintro e w' ⟨rfl, rfl⟩)
        | (go_at_call 36; refine (Many16_ok _ (by omega) h2 _).mono ?_; rintro e w' ⟨rfl, rfl⟩))
      go_ret
      exact ⟨by simp <;> omega, rfl⟩
    · clear h
      go_enter Try.func40, Try.ntmps40
      go_wp2_with (go_at_call 35; refine (Is16_yes _ h1 h2 _).mono ?_; rintro e w' ⟨rfl, rfl⟩)
      go_ret
      exact ⟨by simp <;> omega, rfl⟩
  · clear h
    go_enter Try.func40, Try.ntmps40
    go_wp2_with (go_at_call 35; refine (Is16_no _ (by omega) _).mono ?_; rintro e w' ⟨rfl, rfl⟩)
    go_ret
    exact ⟨rfl, rfl⟩

theorem Depth16_any (l n : Int) (w : World) :
    Calls Try.prog 32 #[.int .i64 l, .int .i64 n] w fun e w' => e = .returned (.tuple #[.int .i64 (dpR l n), .int .i64 (ndE l n)]) ∧ w = w' := by
  by_cases h : ndE l n = 0
  · obtain ⟨h1, h2, h3, h4⟩ := ndE_zero h
    have hp := (pow_bdI l h2).2
    obtain ⟨N, rfl⟩ := Int.eq_ofNat_of_zero_le (show 0 ≤ n by omega)
    have hr : dpR l N = (N.log2 : Nat) := by rw [dpR, h]; rfl
    have HH := Lib.hid (fun w => Has_yes l N h w)
    rw [hr, h]
    have hN : N < 16384 := by omega
    clear h hr h4 hp
    go_enter Try.func32, Try.ntmps32
    go_wp2_with fail
    refine (HH.out _).mono ?_
    rintro e w' ⟨rfl, rfl⟩
    go_wp2_with (go_at_call 41; refine (Deep_ok N _ rfl hN _).mono ?_; rintro e w' ⟨rfl, rfl⟩)
    go_ret2
    exact ⟨rfl, rfl⟩
  · have h2 := ndE_no h
    have hr : dpR l n = 0 := by rw [dpR, h2]; rfl
    have HH := Lib.hid (fun w => Has_no l n h w)
    rw [hr, h2]
    clear h h2 hr
    go_enter Try.func32, Try.ntmps32
    go_wp2_with fail
    refine (HH.out _).mono ?_
    rintro e w' ⟨rfl, rfl⟩
    go_wp2
    go_ret2
    exact ⟨rfl, rfl⟩

set_option maxHeartbeats 400000 in
theorem To_ok : ∀ (m n : Nat) (ni : Int) (w : World), ni = n → n ≤ m → 1 ≤ n → n < 16384 →
    Calls Try.prog 43 #[.int .i64 ni] w (FreshInts w (ints (pth n))) := by
  intro m
  induction m with
  | zero => intro n ni w _ h1 h2; omega
  | succ m ih =>
    intro n ni w hn h1 h2 h3
    subst hn
    have IH := Lib.hid ih
    clear ih
    by_cases h : n = 1
    · subst h
      go_enter Try.func43, Try.ntmps43
      go_wp2
      go_ret
      refine ⟨_, rfl, ?_, (Below.refl _ _).alloc (Nat.le_refl _) _⟩
      rw [pth_one (Nat.le_refl _)]
      exact World.ownsRow_lit w #[.int .i64 1] 1 (Nat.le_refl _) (by decide) rfl
    · have e1 : ((n : Int) == 1) = false := by simp; omega
      have hp := pth_two (n := n) (by omega)
      have hl : (ints (pth (n / 2))).length ≤ 16384 := by
        rw [ints_length, pth_length]
        have := Nat.log2_le_self (n / 2)
        omega
      have HP := Lib.hid hp
      have hn2 : 2 ≤ n := by omega
      clear hp h
      go_enter Try.func43, Try.ntmps43
      go_wp2_with fail
      refine (IH.out (n / 2) _ _ (by omega) (by omega) (by omega) (by omega)).mono ?_
      rintro e w1 ⟨v1, rfl, ho1, hb1⟩
      have hz1 := hb1.size
      go_wp2_with (at_builtin; refine wpl_append (.tmp 8) (.tmp 10) 22 3 (.int .i64 0) 1 8 Try.underlying22 info_int rfl (by decide) (by decide) w.heap.size v1 _ _ (some ⟨w1.heap.size, 0, none⟩) 1 1 [.int .i64 n] (ho1.alloc _) rfl (fun h => by cases h) (new_cells _ [.int .i64 n] _ _ rfl) (by simp [Value.oneCell']) (by omega) (by simp; omega) rfl rfl rfl rfl ?_; intro v2 w2 ho2 hg2 _)
      go_ret
      refine ⟨_, rfl, ?_, (hb1.alloc hz1 _).grown hg2 (by simp; omega) (fun z hz => (ho1.lt z hz).1)⟩
      rw [HP.out, ints_append]
      simpa [ints] using ho2
theorem Path16_any (l n : Int) (w : World) :
    Calls Try.prog 34 #[.int .i64 l, .int .i64 n] w (FreshInts2 w (ptR l n) (.int .i64 (ndE l n))) := by
  by_cases h : ndE l n = 0
  · obtain ⟨h1, h2, h3, h4⟩ := ndE_zero h
    have hp := (pow_bdI l h2).2
    obtain ⟨N, rfl⟩ := Int.eq_ofNat_of_zero_le (show 0 ≤ n by omega)
    have hr : ptR l N = ints (pth N) := by rw [ptR, h]; rfl
    have HH := Lib.hid (fun w => Has_yes l N h w)
    rw [hr, h]
    have hN : N < 16384 := by omega
    clear h hr h4 hp
    go_enter Try.func34, Try.ntmps34
    go_wp2_with fail
    refine (HH.out _).mono ?_
    rintro e w' ⟨rfl, rfl⟩
    go_wp2_with fail
    refine (To_ok N N _ _ rfl (Nat.le_refl _) (by omega) hN).mono ?_
    rintro e w1 ⟨v1, rfl, ho1, hb1⟩
    go_wp2
    go_ret2
    exact ⟨_, rfl, ho1, hb1⟩
  · have h2 := ndE_no h
    have hr : ptR l n = [] := by rw [ptR, h2]; rfl
    have HH := Lib.hid (fun w => Has_no l n h w)
    rw [hr, h2]
    clear h h2 hr
    go_enter Try.func34, Try.ntmps34
    go_wp2_with fail
    refine (HH.out _).mono ?_
    rintro e w' ⟨rfl, rfl⟩
    go_wp2
    go_ret2
    exact ⟨_, rfl, World.ownsRow_nil _ _ _ _, Below.refl _ _⟩
end Go.Proofs.Ytammdgffdgegfaa

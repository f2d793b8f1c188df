/- Walks of the reference 22: asked, Places, Ranks, Order. -/
import Derived.Test.YtcbeldemkfbliaaLib
import Derived.Test.YtcbeldemkfbliaaEytzPlain
namespace Go.Proofs.Ytcbeldemkfbliaa
open Go.RowKit
set_option linter.unusedVariables false

theorem asked22_ok (n a : Int) (h0 : 0 ≤ n) (h1 : n ≤ 65536) (h2 : 0 ≤ a) (h3 : a < n) (w : World) :
    Calls Try.prog 26 #[.int .i64 n, .int .i64 a] w fun e w' => e = .returned (.int .i64 0) ∧ w = w' := by
  go_enter Try.func26, Try.ntmps26
  go_wp2
  go_ret
  exact ⟨rfl, rfl⟩
theorem asked22_arg (n a : Int) (h : n < 0 ∨ (n ≤ 65536 ∧ (a < 0 ∨ n ≤ a))) (w : World) :
    Calls Try.prog 26 #[.int .i64 n, .int .i64 a] w fun e w' => e = .returned (.int .i64 2) ∧ w = w' := by
  rcases h with h | ⟨h, h2 | h2⟩
  all_goals
    go_enter Try.func26, Try.ntmps26
    go_wp2
    all_goals (go_ret; exact ⟨rfl, rfl⟩)
theorem asked22_many (n a : Int) (h : 65536 < n) (w : World) :
    Calls Try.prog 26 #[.int .i64 n, .int .i64 a] w fun e w' => e = .returned (.int .i64 4) ∧ w = w' := by
  go_enter Try.func26, Try.ntmps26
  go_wp2
  go_ret
  exact ⟨rfl, rfl⟩


set_option maxHeartbeats 400000 in
theorem Places22_ok : ∀ (k n a : Nat) (ni ai : Int) (w : World), ni = n → ai = a → n - a ≤ k → n ≤ 65536 → a ≤ 262144 →
    Calls Try.prog 27 #[.int .i64 ni, .int .i64 ai] w (FreshInts w (ints (ord n a))) := by
  intro k
  induction k with
  | zero =>
    intro n a ni ai w hn ha h1 h2 h3
    subst hn ha
    have hge : n ≤ a := by omega
    go_enter Try.func27, Try.ntmps27
    go_wp2
    go_ret
    exact ⟨_, rfl, by rw [ord_out hge]; exact World.ownsRow_nil _ _ _ _, Below.refl _ _⟩
  | succ k ih =>
    intro n a ni ai w hn ha h1 h2 h3
    subst hn ha
    have IH := Lib.hid ih
    clear ih
    by_cases h : a < n
    · go_enter Try.func27, Try.ntmps27
      go_wp2_with fail
      refine (IH.out n (2 * a + 1) _ _ _ rfl (by push_cast; rfl) (by omega) h2 (by omega)).mono ?_
      rintro e w1 ⟨v1, rfl, ho1, hb1⟩
      have hl1 : (ints (ord n (2 * a + 1))).length ≤ 65536 := by rw [ints_length]; exact Nat.le_trans (ord_len_le _ _) h2
      have hz1 := hb1.size
      go_wp2_with (at_builtin; refine wpl_append (.tmp 13) (.tmp 15) 22 3 (.int .i64 0) 1 8 Try.underlying22 info_int rfl (by decide) (by decide) w.heap.size v1 _ _ (some ⟨w1.heap.size, 0, none⟩) 1 1 [.int .i64 a] (ho1.alloc _) rfl (fun h => by cases h) (new_cells _ [.int .i64 a] _ _ rfl) (by simp [Value.oneCell']) (by omega) (by simp; omega) rfl rfl rfl rfl ?_; intro v2 w2 ho2 hg2 _)
      refine (IH.out n (2 * a + 2) _ _ _ rfl (by push_cast; rfl) (by omega) h2 (by omega)).mono ?_
      rintro e w3 ⟨v3, rfl, ho3, hb3⟩
      have hb2 := (hb1.alloc hz1 (.cells #[.int .i64 a] 3)).grown hg2 (by simp; omega) (fun z hz => (ho1.lt z hz).1)
      have ho2' := owns_below ho2 hb3
      have hb4 := hb2.trans (hb3.mono hb2.size)
      have hz4 := hb4.size
      obtain ⟨ao, c, rfl, hnone, hnews⟩ := owns_news ho3
      have hl3 : (ints (ord n (2 * a + 2))).length ≤ 65536 := by rw [ints_length]; exact Nat.le_trans (ord_len_le _ _) h2
      have HN := Lib.hid hnone
      have HM := Lib.hid hnews
      have H2 := Lib.hid ho2'
      have H4 := Lib.hid hb4
      clear hnone hnews ho1 ho2 ho3 hb1 hb2 hb3 hg2 ho2' hb4
      go_wp2_with (at_builtin; refine wpl_append (.tmp 17) (.tmp 22) 22 3 (.int .i64 0) 1 8 Try.underlying22 info_int rfl (by decide) (by decide) w.heap.size v2 _ _ ao _ c _ H2.out (by simp) HN.out HM.out (oneCells _) (by omega) hz4 rfl rfl rfl rfl ?_; intro v4 w4 ho4 hg4 _)
      go_ret
      have e : ints (ord n a) = ints (ord n (2 * a + 1)) ++ [(a : Int)] ++ ints (ord n (2 * a + 2)) := by
        rw [ord_in h, ints_append]
        simp [ints]
      refine ⟨_, rfl, ?_, H4.out.grown hg4 hz4 (fun z hz => (H2.out.lt z hz).1)⟩
      rw [e, List.length_append, List.length_append, List.map_append, List.map_append]
      exact ho4
    · have hge : n ≤ a := by omega
      go_enter Try.func27, Try.ntmps27
      go_wp2
      go_ret
      exact ⟨_, rfl, by rw [ord_out hge]; exact World.ownsRow_nil _ _ _ _, Below.refl _ _⟩

theorem Ranks22_ok (n : Nat) (ni : Int) (hn : ni = n) (h2 : n ≤ 65536) (w : World) :
    Calls Try.prog 23 #[.int .i64 ni] w (FreshInts w (rnk n)) := by
  subst hn
  go_enter Try.func23, Try.ntmps23
  go_wp2_with (at_make; refine wpl_make_ints (.tmp 6) (.tmp 6) w.heap.size n _ rfl (by omega) (Nat.le_refl _) rfl rfl rfl rfl ?_; intro g w1 hg hown hbel)
  refine (Places22_ok n n 0 _ _ _ rfl rfl (by omega) h2 (by omega)).mono ?_
  rintro e w2 ⟨v2, rfl, ho2, hbel2⟩
  have hownb := owns_below hown hbel2
  have hbelb := hbel.trans (hbel2.mono hbel.size)
  obtain ⟨a2, cap2, rfl, hi2, hb2, _⟩ := ints_of_owns ho2
  have hlen : (ints (ord n 0)).length = n := by rw [ints_length, ord_length]
  have HLEN := Lib.hid hlen
  have hlenb : (ints (ord n 0)).length ≤ 65536 := by omega
  have hglt := (hown.lt g rfl).2
  clear hown hlen ho2
  have HI := Lib.hid hi2
  have HB := Lib.hid hb2
  clear hi2 hb2
  go_wp2
  go_loopg [5] n (fun gk i wr => ∃ k : Nat, k + gk = n ∧ i = .int .i64 k ∧
      wr.ownsRow w.heap.size 3 1 (.slice (some ⟨g, 0, none⟩) n n) (rankTo n (ord n 0) k).length ((rankTo n (ord n 0) k).map (Value.int .i64)) ∧
      Below w.heap.size w wr ∧ IsInts wr a2 (ints (ord n 0)))
  case atStart => exact ⟨0, by omega, rfl, by simpa [rankTo] using hownb, hbelb, HI.out⟩
  case round =>
    obtain ⟨k, hk, rfl, how, hbe, hin⟩ := hrel
    have HK := Lib.hid hk
    by_cases hlt : k < (ints (ord n 0)).length
    · have hin2 := ord_lt (n := n) (k := k) (by rw [← HLEN.out]; exact hlt)
      obtain ⟨b2, o2, x, rfl, hx, hc2, hbl2⟩ := hin.get hlt
      have hx2 := hx.out
      rw [getD_ints] at hx2
      have hxb : 0 ≤ x ∧ x < n := by omega
      have hjl : x.toNat < (rankTo n (ord n 0) k).length := by rw [rankTo_length]; omega
      obtain ⟨⟨y, hy, hcy⟩, hfz, hst⟩ := ints_cell how hjl
      have HX := Lib.hid hx2
      clear hx2 hk hin2
      go_wp2
      go_roundg (gk - 1)
      case measure => have := HK.out; have := HLEN.out; omega
      case rel =>
        have ex : x.toNat = (ord n 0).getD k 0 := by have := HX.out; omega
        refine ⟨k + 1, by have := HK.out; have := HLEN.out; omega, by go_num, ?_, hbe.setCell (by exact hg) _, hin.setCell (fun z hz => ?_) _⟩
        · rw [rankTo, ← ex]; exact hst k
        · have h9 : w1.heap.size ≤ b2 := (HB.out ⟨b2, o2, none⟩ rfl).1
          cases hz
          show b2 ≠ g
          omega
    · go_wp2
      go_ret
      refine ⟨_, rfl, ?_, hbe⟩
      have hk2 : k = n := by have := HLEN.out; omega
      rw [hk2] at how
      rw [rnk_length]
      rw [rankTo_length] at how
      exact how
theorem Order22_ok (n : Nat) (ni : Int) (hn : ni = n) (h2 : n ≤ 65536) (w : World) :
    Calls Try.prog 9 #[.int .i64 ni] w fun e w' =>
      ∃ v, e = .returned (.tuple #[v, .int .i64 0]) ∧ w'.ownsRow w.heap.size 3 1 v (rnk n).length ((rnk n).map (Value.int .i64)) ∧ Below w.heap.size w w' := by
  subst hn
  go_enter Try.func9, Try.ntmps9
  go_wp2_with (go_at_call 23; refine (Ranks22_ok n _ rfl h2 _).mono ?_; rintro e w' ⟨v, rfl, ho, hb⟩)
  go_ret2
  exact ⟨v, rfl, ho, hb⟩
theorem Order22_neg (n : Int) (h : n < 0) (w : World) :
    Calls Try.prog 9 #[.int .i64 n] w fun e w' => e = .returned (.tuple #[.slice none 0 0, .int .i64 2]) ∧ w = w' := by
  go_enter Try.func9, Try.ntmps9
  go_wp2
  go_ret2
  exact ⟨rfl, rfl⟩
theorem Order22_many (n : Int) (h : 65536 < n) (w : World) :
    Calls Try.prog 9 #[.int .i64 n] w fun e w' => e = .returned (.tuple #[.slice none 0 0, .int .i64 4]) ∧ w = w' := by
  go_enter Try.func9, Try.ntmps9
  go_wp2
  go_ret2
  exact ⟨rfl, rfl⟩
end Go.Proofs.Ytcbeldemkfbliaa

/- The walk of veb's examples. -/
import Derived.Test.YtammdgffdgegfaaVebLaws
import Derived.Test.YtammdgffdgegfaaSame
import Derived.Test.YtammdgffdgegfaaStep
namespace Go.Proofs.Ytammdgffdgegfaa
open Go.RowKit Go.Shelf
set_option linter.unusedVariables false
set_option linter.unusedSimpArgs false

theorem lit_ints (w : World) (xs : List Int) (t : TypeId) : IsInts (w.alloc (.cells (xs.map (Value.int .i64)).toArray t)) (some ⟨w.heap.size, 0, none⟩) xs := by
  intro i hi
  refine ⟨_, _, rfl, by simp, fun j hj => ?_⟩
  rw [World.cell?_alloc_at _ _ _ _ rfl]
  simp [hj]

/-- these nodes are a whole layout -/
def Whole (l : Int) (xs : List Int) : Prop := (∀ k x, k < xs.length → xs.getD k 0 = x → vnE l k = 0 ∧ vnR l k = x) ∧ vnE l xs.length = 2
theorem whole_of (L : Nat) (xs : List Int) (h1 : 1 ≤ L) (h2 : L ≤ 14) (h : ints (lay L 1) = xs) : Whole L xs := by
  have hlen : xs.length = 2 ^ L - 1 := by rw [← h, ints_length, lay_len 1 h1]
  have hn := pow_nat L
  refine ⟨fun k x hk hx => ?_, ?_⟩
  · have e : vnE L k = 0 := by
      rw [vnE, if_pos]
      exact ⟨⟨by omega, by omega⟩, by omega, by simp only [Int.toNat_natCast]; omega⟩
    refine ⟨e, ?_⟩
    rw [vnR, e, if_pos rfl, ← hx, ← h, getD_ints]; rfl
  · rw [vnE, if_neg]
    simp only [Int.toNat_natCast]
    omega

set_option maxHeartbeats 1000000 in
theorem stands_true (l : Int) (a : Option Addr) (c : Nat) (xs : List Int) (w : World) (hi : IsInts w a xs) (hlen : xs.length ≤ 16) (hw : Whole l xs) :
    Calls Try.prog 23 #[.int .i64 l, .slice a xs.length c] w (Gives w (.bool true)) := by
  obtain ⟨hin, hend⟩ := hw
  have N := fun k w => Node_any l k w
  have NE := Lib.hid (N xs.length)
  rw [hend] at NE
  have HIN := Lib.hid hin
  have HI := Lib.hid hi
  clear hin hend hi
  go_enter Try.func23, Try.ntmps23
  clear N
  go_wp2
  go_loopg [5] xs.length (fun g i wr => ∃ k : Nat, k + g = xs.length ∧ i = .int .i64 k ∧ Hid (IsInts wr a xs) ∧ Hid (Below w.heap.size w wr))
  case atStart => exact ⟨0, by omega, rfl, HI, Lib.hid (Below.refl _ _)⟩
  case round =>
    obtain ⟨k, hk, rfl, hi, hbel⟩ := hrel
    have hzw := hbel.out.size
    by_cases hlt : k < xs.length
    · obtain ⟨b1, o1, x, rfl, hxk, hc, hbl⟩ := hi.out.get hlt
      have HN := fun w => Node_any l k w
      obtain ⟨q1, q2⟩ := HIN.out k x hlt hxk.out
      rw [q1, q2] at HN
      have HN := Lib.hid HN
      clear q1 q2
      go_wp2_with fail
      refine (HN.out _).mono ?_
      rintro e w5 ⟨rfl, hb5⟩
      have hi5 := Lib.hid (hi.out.below hb5)
      have hbel5 := Lib.hid (hbel.out.trans (hb5.mono hzw))
      have hc5 := (hb5.cell (p := ⟨b1, o1 + k, none⟩) hbl).trans hc
      have e2 : (x != x) = false := by simp
      go_wp2
      go_roundg (gk - 1)
      case measure => omega
      case rel => exact ⟨k + 1, by omega, by go_num, hi5, hbel5⟩
    · obtain rfl : gk = 0 := by omega
      go_wp2_with fail
      refine (NE.out _).mono ?_
      rintro e w5 ⟨rfl, hb5⟩
      go_wp2
      go_ret
      exact ⟨rfl, hbel.out.trans (hb5.mono hzw)⟩

theorem whole1 : Whole 1 [1] := whole_of 1 _ (by decide) (by decide) (by rw [layF_eq 1 1 1 (by decide)]; decide)
theorem whole2 : Whole 2 [1, 2, 3] := whole_of 2 _ (by decide) (by decide) (by rw [layF_eq 2 2 1 (by decide)]; decide)
theorem whole3 : Whole 3 [1, 2, 4, 5, 3, 6, 7] := whole_of 3 _ (by decide) (by decide) (by rw [layF_eq 3 3 1 (by decide)]; decide)
theorem whole4 : Whole 4 [1, 2, 3, 4, 8, 9, 5, 10, 11, 6, 12, 13, 7, 14, 15] := whole_of 4 _ (by decide) (by decide) (by rw [layF_eq 4 4 1 (by decide)]; decide)

theorem alive17 (w : World) : Calls Try.prog 12 #[] w (Gives w (.bool true)) := by
  go_enter Try.func12, Try.ntmps12
  go_wp2_with fail
  refine (stands_true 2 _ 3 [1, 2, 3] _ (lit_ints w [1, 2, 3] _) (by decide) whole2).mono ?_
  rintro e w1 ⟨rfl, hb1⟩
  go_wp2_with fail
  refine (stands_true 3 _ 7 [1, 2, 4, 5, 3, 6, 7] _ (lit_ints w1 [1, 2, 4, 5, 3, 6, 7] _) (by decide) whole3).mono ?_
  rintro e w2 ⟨rfl, hb2⟩
  go_wp2_with fail
  refine (stands_true 4 _ 15 [1, 2, 3, 4, 8, 9, 5, 10, 11, 6, 12, 13, 7, 14, 15] _ (lit_ints w2 [1, 2, 3, 4, 8, 9, 5, 10, 11, 6, 12, 13, 7, 14, 15] _) (by decide) whole4).mono ?_
  rintro e w3 ⟨rfl, hb3⟩
  go_wp2
  go_ret
  have hz1 := hb1.size; have hz2 := hb2.size
  try simp only [World.size_alloc] at hz1 hz2
  refine ⟨rfl, ?_⟩
  have h1 : Below w.heap.size w w1 := ((Below.refl _ _).alloc (Nat.le_refl _) _).trans (hb1.mono (by simp))
  have h2 : Below w.heap.size w w2 := (h1.alloc (by omega) _).trans (hb2.mono (by simp; omega))
  exact (h2.alloc (by omega) _).trans (hb3.mono (by simp; omega))
end Go.Proofs.Ytammdgffdgegfaa

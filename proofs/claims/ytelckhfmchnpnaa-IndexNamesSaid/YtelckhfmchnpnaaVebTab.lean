/- The walk of veb.Table. -/
import Derived.Test.YtelckhfmchnpnaaVebLaid
namespace Go.Proofs.Ytelckhfmchnpnaa
open Go.RowKit
set_option linter.unusedVariables false
set_option linter.unusedSimpArgs false

theorem Table_ok (L : Nat) (l : Int) (hl : l = L) (h1 : 1 ≤ L) (h2 : L ≤ 14) (w : World) :
    Calls Try.prog 66 #[.int .i64 l] w fun e w' =>
      ∃ v, e = .returned (.tuple #[v, .int .i64 0]) ∧ w'.ownsRow w.heap.size 3 1 v (plc L).length ((plc L).map (Value.int .i64)) ∧ Below w.heap.size w w' := by
  subst hl
  have hp : 1 ≤ 2 ^ L ∧ 2 ^ L ≤ 16384 := ⟨Nat.two_pow_pos L, Nat.pow_le_pow_right (by omega) h2⟩
  have e1 : (2 : Int) ^ L - 1 = ((2 ^ L - 1 : Nat) : Int) := by rw [Int.natCast_sub hp.1]; push_cast; rfl
  go_enter Try.func66, Try.ntmps66
  have E1 := Lib.hid e1
  clear e1
  go_wp2_with (first
    | (go_at_call 28; refine (Size_ok _ (by omega) (by omega) _).mono ?_; rintro e w' ⟨rfl, rfl⟩)
    | (at_make; refine wpl_make_ints (.tmp 17) (.tmp 17) w.heap.size (2 ^ L - 1) _ E1.out (by omega) (Nat.le_refl _) rfl rfl rfl rfl ?_; intro g w1 hg hown hbel))
  refine (laid_ok L h1 h2 _).mono ?_
  rintro e w2 ⟨v2, rfl, ho2, hbel2⟩
  have hownb := owns_below hown hbel2
  have hbelb := hbel.trans (hbel2.mono hbel.size)
  obtain ⟨a2, cap2, rfl, hi2, hb2, _⟩ := ints_of_owns ho2
  have hlen : (ints (lay L 1)).length = 2 ^ L - 1 := by rw [ints_length, lay_len 1 h1]
  have HLEN := Lib.hid hlen
  have hlenb : (ints (lay L 1)).length ≤ 16384 := by omega
  have hglt := (hown.lt g rfl).2
  clear hown hlen ho2
  have HI := Lib.hid hi2
  have HB := Lib.hid hb2
  clear hi2 hb2
  go_wp2
  go_loopg [22] (2 ^ L - 1) (fun gk i wr => ∃ k : Nat, k + gk = 2 ^ L - 1 ∧ i = .int .i64 k ∧
      wr.ownsRow w.heap.size 3 1 (.slice (some ⟨g, 0, none⟩) (2 ^ L - 1) (2 ^ L - 1)) (fillTo (2 ^ L - 1) (lay L 1) k).length ((fillTo (2 ^ L - 1) (lay L 1) k).map (Value.int .i64)) ∧
      Below w.heap.size w wr ∧ IsInts wr a2 (ints (lay L 1)))
  case atStart => exact ⟨0, by omega, rfl, hownb, hbelb, HI.out⟩
  case round =>
    obtain ⟨k, hk, rfl, how, hbe, hin⟩ := hrel
    have HK := Lib.hid hk
    by_cases hlt : k < (ints (lay L 1)).length
    · have hin2 := lay_in (L := L) (k := k) h1 (by rw [← HLEN.out]; exact hlt)
      obtain ⟨b2, o2, x, rfl, hx, hc2, hbl2⟩ := hin.get hlt
      have hx2 := hx.out
      rw [getD_ints] at hx2
      have hxb : 1 ≤ x ∧ x ≤ 16384 := by omega
      have hjl : (x.toNat - 1) < (fillTo (2 ^ L - 1) (lay L 1) k).length := by rw [fillTo_length]; omega
      obtain ⟨⟨y, hy, hcy⟩, hfz, hst⟩ := ints_cell how hjl
      have hle : x ≤ ((2 ^ L - 1 : Nat) : Int) := by omega
      have HX := Lib.hid hx2
      clear hx2 hk hin2
      go_wp2
      go_roundg (gk - 1)
      case measure => have := HK.out; have := HLEN.out; omega
      case rel =>
        have ex : x.toNat = (lay L 1).getD k 0 := by have := HX.out; omega
        refine ⟨k + 1, by have := HK.out; have := HLEN.out; omega, by go_num, ?_, hbe.setCell (by exact hg) _, hin.setCell (fun z hz => ?_) _⟩
        · rw [fillTo, ← ex]; exact hst k
        · have h9 : w1.heap.size ≤ b2 := (HB.out ⟨b2, o2, none⟩ rfl).1
          cases hz
          show b2 ≠ g
          omega
    · go_wp2
      go_ret2
      refine ⟨_, rfl, ?_, hbe⟩
      have hk2 : k = 2 ^ L - 1 := by have := HLEN.out; omega
      rw [hk2] at how
      have e2 : (plc L).length = 2 ^ L - 1 := by rw [plc, fillTo_length]
      rw [e2]
      rw [fillTo_length] at how
      exact how
theorem Table_err (l : Int) (h : l < 1 ∨ 14 < l) (w : World) :
    Calls Try.prog 66 #[.int .i64 l] w fun e w' => e = .returned (.tuple #[.slice none 0 0, .int .i64 2]) ∧ w = w' := by
  go_enter Try.func66, Try.ntmps66
  go_wp2_with (go_at_call 28; refine (Size_err _ h _).mono ?_; rintro e w' ⟨rfl, rfl⟩)
  go_ret2
  exact ⟨rfl, rfl⟩
end Go.Proofs.Ytelckhfmchnpnaa

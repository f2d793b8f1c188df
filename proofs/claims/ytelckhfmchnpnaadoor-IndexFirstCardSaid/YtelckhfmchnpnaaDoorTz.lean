/- math/bits.TrailingZeros64, as the look-up in its table goes; the first bit of a word. -/
import Derived.Test.YtelckhfmchnpnaaDoorBits
import Derived.Test.YtelckhfmchnpnaaDoorLib
import Derived.Laws.Bits64b
import Derived.Lib.TrailingZeros
namespace Go.Proofs.YtelckhfmchnpnaaDoor
open Go.RowKit
set_option linter.unusedVariables false
set_option linter.unusedSimpArgs false

/-- the table of package bits, in its variable -/
def TabAt (w : World) : Prop := ∀ j, j < 64 → w.cell? ⟨0, j, none⟩ = some (.int .u8 (Lib.deBruijn64tab.getD j 0))
theorem TabAt.below {w w' : World} (h : TabAt w) (hb : Below w.heap.size w w') : TabAt w' := fun j hj => (hb.cell (World.block_lt_of_cell? _ _ (h j hj))).trans (h j hj)

set_option maxHeartbeats 1000000 in
theorem tz64_core (x k idx : Nat) (w : World) (hx0 : ((x : Int) == 0) = false)
    (key : IntKind.u64.wrap (bits BinOp.and IntKind.u64 (x : Int) (IntKind.u64.wrap (-(x : Int))) * 285870213051353865) / 288230376151711744 = (idx : Int))
    (hi : idx < 64) (hk : k < 64) (hcell : w.cell? ⟨0, idx, none⟩ = some (.int .u8 k)) :
    Calls Tryd.prog 52 #[.int .u64 x] w fun e w' => e = .returned (.int .i64 k) ∧ w = w' := by
  go_enter Tryd.func52, Tryd.ntmps52
  go_wp2_with (simp only [key])
  go_ret
  exact ⟨rfl, rfl⟩
theorem tz64_key (x a : Nat) (hx : x < 18446744073709551616) (hx0 : x ≠ 0) (hlow : x &&& (18446744073709551616 - x) = a) :
    IntKind.u64.wrap (bits BinOp.and IntKind.u64 (x : Int) (IntKind.u64.wrap (-(x : Int))) * 285870213051353865) / 288230376151711744 = ((a * 285870213051353865 % 18446744073709551616 / 288230376151711744 : Nat) : Int) := by
  have e1 : IntKind.u64.wrap (-(x : Int)) = ((18446744073709551616 - x : Nat) : Int) := by rw [IntKind.wrap_u64]; omega
  rw [e1, bits_and_u64_nat x _ hx (by omega), hlow, IntKind.wrap_u64]
  omega
/-- the number of the first bit -/
def tzI (x : Int) : Nat := Lib.ctz 64 x.toNat
theorem tz_ok (x : Int) (h0 : 0 ≤ x) (h1 : x < 18446744073709551616) (hx : x ≠ 0) (w : World) (hT : TabAt w) :
    Calls Tryd.prog 52 #[.int .u64 x] w fun e w' => e = .returned (.int .i64 (tzI x)) ∧ w = w' := by
  obtain ⟨n, rfl⟩ : ∃ n : Nat, x = n := ⟨x.toNat, by omega⟩
  have hn0 : n ≠ 0 := by omega
  obtain ⟨hlow, hk⟩ := Lib.lowest_bit 64 n hn0 (by omega)
  obtain ⟨hi, htab⟩ := Lib.deBruijn64_at _ hk
  have hcell := hT _ hi
  rw [htab] at hcell
  rw [tzI, Int.toNat_natCast]
  exact tz64_core n _ _ w (by simp; omega) (tz64_key n _ (by omega) hn0 hlow) hi hk hcell
theorem tzI_bit {x : Int} (h0 : 0 ≤ x) (h1 : x < 18446744073709551616) (hx : x ≠ 0) : tzI x < 64 ∧ bitI x (tzI x) = true ∧ ∀ j, j < tzI x → bitI x j = false := by
  obtain ⟨n, rfl⟩ : ∃ n : Nat, x = n := ⟨x.toNat, by omega⟩
  have hn0 : n ≠ 0 := by omega
  obtain ⟨m, hm, hk⟩ := Lib.ctzFrom_spec 64 n (by omega) (by omega)
  have e : tzI (n : Int) = Lib.ctzFrom 64 n := by rw [tzI, Int.toNat_natCast, Lib.ctz, if_neg hn0]
  rw [e]
  generalize Lib.ctzFrom 64 n = c at *
  refine ⟨hk, ?_, fun j hj => ?_⟩
  · rw [bitI_nat, hm, Nat.mul_comm, Nat.testBit_mul_two_pow]
    simp
  · rw [bitI_nat, hm, Nat.mul_comm, Nat.testBit_mul_two_pow]
    simp
    omega
end Go.Proofs.YtelckhfmchnpnaaDoor

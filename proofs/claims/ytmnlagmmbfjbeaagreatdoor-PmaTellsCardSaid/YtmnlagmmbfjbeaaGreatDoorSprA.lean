/- Merged: Ref08, LayW, Spr. -/
import Derived.Test.YtmnlagmmbfjbeaaGreatDoorSlPut
import Derived.Deep.CutRange
import Derived.Test.YtmnlagmmbfjbeaaGreatDoorPlc
import Derived.Test.YtmnlagmmbfjbeaaGreatDoorFilA
import Derived.Test.YtmnlagmmbfjbeaaGreatDoorE4F
import Derived.Test.YtmnlagmmbfjbeaaGreatDoorConfA
import Derived.Test.YtmnlagmmbfjbeaaGreatDoorPrsAll
namespace Go.Proofs.YtmnlagmmbfjbeaaGreatDoor
set_option linter.unusedVariables false
set_option linter.unusedSimpArgs false
section
open Go.RowKit Go.Shelf
attribute [local go_sem] Oper.semAt_some

end

section
open Go.RowKit Go.Shelf
attribute [local go_sem] Oper.semAt_some

end

section
open Go.RowKit

theorem gd_may {c : SlC} {S lw n lc : Nat} (h : SlGd c S lw n lc) (hS : pwB (S : Int) = true) (hM : pwB (lc : Int) = true) (hlw : lw = (n + 63) / 64) : slMay c = true := by
  have hlc1 : 1 ≤ lc := by
    rcases Nat.eq_zero_or_pos lc with e | e
    · rw [e] at hM; cases hM
    · exact e
  have h4 := h.s4
  have hn : (n : Int) / (S : Int) = lc := by
    rw [h.cn, Int.natCast_mul, Int.mul_ediv_cancel_left _ (by omega)]
  have hn2 : (n : Int) % (S : Int) = 0 := by
    rw [h.cn, Int.natCast_mul, Int.mul_emod_right]
  have hle : S * 1 ≤ S * lc := Nat.mul_le_mul_left _ hlc1
  simp only [slMay, slHead, fitB, wMayB, clrB, cntB, Bool.and_eq_true, decide_eq_true_eq, List.all_eq_true]
  rw [h.elk, h.elv, h.elw, h.elc, h.seg, hn, hn2]
  refine ⟨⟨⟨⟨⟨⟨⟨⟨⟨⟨⟨by have := h.s4; omega, by have := h.s64; omega⟩, hS⟩, by have := h.cn; omega⟩, by have := h.nm; omega⟩, rfl⟩, hM⟩, rfl⟩, hlw, ?_⟩, rfl⟩, ?_⟩, ?_⟩
  · intro i hi
    have := (List.mem_range'_1.1 hi).1
    rw [h.hi i this]
    rfl
  · intro i hi
    cases hb : bitW c.ws i with
    | true => rfl
    | false =>
      have := h.clr i hb
      simp only [Bool.false_or, Bool.and_eq_true, beq_iff_eq]
      exact this
  · intro k hk
    have := h.cnt k (List.mem_range.1 hk)
    rw [Int.toNat_natCast, this, beq_self_eq_true]
theorem gd_fit {c : SlC} {S lw n lc : Nat} (h : SlGd c S lw n lc) (hm : slMay c = true) : fitB (S : Int) n = true := by
  simp only [slMay, slHead, Bool.and_eq_true] at hm
  have := hm.1.1.1.1.1
  rwa [h.elk, h.seg] at this
/-- an empty array of so many slots, with a ledger -/
def emptyL (S M : Nat) (laid : Int) : SlC := ⟨S, List.replicate ((S * M + 63) / 64) 0, List.replicate (S * M) 0, List.replicate (S * M) 0, List.replicate M 0, laid⟩
theorem emptyL_gd {S M : Nat} (h4 : 4 ≤ S) (h6 : S ≤ 64) (hM : 1 ≤ M) (hm : S * M ≤ 65536) (laid : Int) : SlGd (emptyL S M laid) S ((S * M + 63) / 64) (S * M) M := by
  have z := zero_gd h4 h6 hM hm (lw := (S * M + 63) / 64) rfl
  exact ⟨z.seg, z.elw, z.elk, z.elv, z.elc, z.s4, z.s64, z.cn, z.wn, z.n1, z.nm, z.u, z.cnt, z.hi, z.clr⟩
theorem new_nums {S M : Nat} (h4 : 4 ≤ S) (hm : S * M ≤ 65536) : (((S * M : Nat) : Int) + 63).tdiv 64 = ((S * M + 63) / 64 : Nat) ∧ ((S * M : Nat) : Int).tdiv S = M ∧ (S * M + 63) / 64 ≤ 2000 ∧ M ≤ 65536 := by
  have h9 : 1 * M ≤ S * M := Nat.mul_le_mul_right _ (by omega)
  refine ⟨?_, ?_, by omega, by omega⟩
  · rw [Int.tdiv_eq_ediv_of_nonneg (by omega)]; omega
  · rw [Int.tdiv_eq_ediv_of_nonneg (by omega), Int.natCast_mul, Int.mul_ediv_cancel_left _ (by omega)]
end
end Go.Proofs.YtmnlagmmbfjbeaaGreatDoor

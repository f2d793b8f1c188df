/- What a window of none, and one around all that was turned, tell: plain words. No function of the program is walked here. -/
import Derived.Test.YtbmibaafkgleeaaMendFit
namespace Go.Proofs.Ytbmibaafkgleeaa
open Go.RowKit
set_option linter.unusedVariables false
set_option linter.unusedSimpArgs false

theorem gH_none {lf t0 : Nat → Int × Int} {F lo : Nat} : ∀ (h n : Nat), gH lf t0 F lo lo h n = t0 n := by
  intro h
  induction h with
  | zero => intro n; rw [gH, if_neg (by rw [hit_none]; decide)]
  | succ h ih => intro n; rw [gH, if_neg (by rw [hit_none]; decide)]; exact ih n
theorem tu_same {c d : SlC} (e1 : tuE c d = 0) : c.seg = d.seg ∧ c.ks.length = d.ks.length := by
  unfold tuE at e1
  split at e1
  · split at e1
    · split at e1
      · assumption
      · cases e1
    · cases e1
  · cases e1
theorem tu_cs {c d : SlC} (e1 : tuE c d = 0) (e2 : bldE c = 0) (h0 : bldE d = 0) : c.cs.length = d.cs.length := by
  have hsd := tu_same e1
  obtain ⟨S, D, hS, hS2, hS4, hS64, hcs, hD, hks, hSM, -⟩ := bld_vals e2
  obtain ⟨S', D', hS', hS2', -, -, hcs', hD', hks', -⟩ := bld_vals h0
  have hSS : S' = S := by have := hsd.1; omega
  subst hSS
  have hDD : 2 ^ D' = 2 ^ D := by
    have : S' * 2 ^ D' = S' * 2 ^ D := by have := hsd.2; omega
    exact Nat.eq_of_mul_eq_mul_left (by omega) this
  omega
/-- a window of none turns nothing -/
theorem wnd_none {c d : SlC} (hc : bldE c = 0) (hd : bldE d = 0) (h1 : c.cs.length = d.cs.length) {lo : Int} (h3 : 0 ≤ lo) (h5 : lo ≤ d.cs.length) :
    wndE (bldL c) (bldM c) (bldC c) d lo lo = 0 ∧ wndL (bldL c) (bldM c) (bldC c) d lo lo = bldL c ∧ wndM (bldL c) (bldM c) (bldC c) d lo lo = bldM c ∧ wndC (bldL c) (bldM c) (bldC c) d lo lo = bldC c := by
  obtain ⟨S, D, hS, hS2, hS4, hS64, hcs, hD, hks, hSM, hL, hlm, hlc, hv⟩ := bld_vals hc
  have hmay := bld_may hc
  have h2L : (2 : Int) ^ ((bldL c).toNat - 1) = ((2 ^ D : Nat) : Int) := by rw [hL, Int.toNat_natCast, Nat.add_sub_cancel]; push_cast; rfl
  have hE : wndE (bldL c) (bldM c) (bldC c) d lo lo = 0 := by
    rw [wndE, if_pos hd, if_pos hmay, if_pos ⟨by rw [h2L, ← h1, hcs], h3, Int.le_refl _, h5⟩]
  refine ⟨hE, by rw [wndL, if_pos hE], ?_, ?_⟩
  · rw [wndM, if_pos hE, hL, Int.toNat_natCast]
    conv => rhs; rw [lay_whole (L := D + 1) (by omega) hlm]
    refine lay_map_eq (by omega) fun n _ _ => ?_
    unfold wndT
    rw [gH_none]
    simp only [Int.toNat_natCast]
  · rw [wndC, if_pos hE, hL, Int.toNat_natCast]
    conv => rhs; rw [lay_whole (L := D + 1) (by omega) hlc]
    refine lay_map_eq (by omega) fun n _ _ => ?_
    unfold wndT
    rw [gH_none]
    simp only [Int.toNat_natCast]
/-- a window around all that was turned -/
theorem wnd_tu {c d : SlC} (e1 : tuE c d = 0) (e2 : bldE c = 0) (h0 : bldE d = 0) {lo hi : Int} (h3 : 0 ≤ lo) (h4 : lo ≤ (tuF c d c.seg.toNat c.cs.length : Nat)) (h5 : (tuT c d c.seg.toNat c.cs.length : Nat) ≤ hi) (h6 : hi ≤ d.cs.length) :
    wndE (bldL c) (bldM c) (bldC c) d lo hi = 0 ∧ wndL (bldL c) (bldM c) (bldC c) d lo hi = bldL d ∧ wndM (bldL c) (bldM c) (bldC c) d lo hi = bldM d ∧ wndC (bldL c) (bldM c) (bldC c) d lo hi = bldC d := by
  have hsd := tu_same e1
  have hcs := tu_cs e1 e2 h0
  have hbd := tu_bd c d c.seg.toNat c.cs.length
  refine wnd_law e2 h0 hsd.1 hsd.2 h3 (by omega) h6 (fun k k1 k2 => ?_)
  rw [← hsd.1]
  exact tu_like (M := c.cs.length) (by omega) (by omega)
end Go.Proofs.Ytbmibaafkgleeaa

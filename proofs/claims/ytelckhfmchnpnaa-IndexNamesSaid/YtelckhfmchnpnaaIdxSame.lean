/- The walk of index.Same. -/
import Derived.Test.YtelckhfmchnpnaaIdxFns
import Derived.Test.YtelckhfmchnpnaaRowEq
namespace Go.Proofs.Ytelckhfmchnpnaa
open Go.RowKit
set_option linter.unusedVariables false
set_option linter.unusedSimpArgs false

set_option maxHeartbeats 400000 in
theorem Same_ix (L L' : Int) (ma ca ma' ca' : Option Addr) (mc cc mc' cc' : Nat) (ms cs ms' cs' : List Int) (w : World) (hm : IsRow .i64 w ma ms) (hc : IsRow .i64 w ca cs) (hm' : IsRow .i64 w ma' ms') (hc' : IsRow .i64 w ca' cs') (hl : ms.length ≤ 100000) (hl2 : cs.length ≤ 100000) :
    Calls Try.prog 16 #[ixV L ma ms.length mc ca cs.length cc, ixV L' ma' ms'.length mc' ca' cs'.length cc'] w (Ans w (.bool (ixEq L ms cs L' ms' cs'))) := by
  have HE1 := Lib.hid (fun (W : World) (hb : Below w.heap.size w W) => Equal_int64 ma ma' mc mc' ms ms' W (hm.below hb) (hm'.below hb) (by omega))
  have HE2 := Lib.hid (fun (W : World) (hb : Below w.heap.size w W) => Equal_int ca ca' cc cc' cs cs' W (hc.below hb) (hc'.below hb) (by omega))
  clear hm hc hm' hc' hl hl2
  unfold ixEq
  by_cases h1 : L = L'
  · have e1 : (L == L') = true := by simpa using h1
    have e2 : decide (L = L') = true := by simpa using h1
    rw [e2]
    clear h1 e2
    generalize hb1 : decide (ms = ms') = b1 at HE1 ⊢
    clear hb1
    generalize hb2 : decide (cs = cs') = b2 at HE2 ⊢
    clear hb2
    cases b1 with
    | true =>
      go_enter Try.func16, Try.ntmps16
      go_wp2_with (first
        | (go_at_call 41; refine (HE1.out _ (by (repeat (first | (with_reducible exact Below.refl _ _) | (with_reducible assumption) | (with_reducible exact Hid.out (by with_reducible assumption)) | (with_reducible refine Below.alloc ?_ ?_ _) | (with_reducible refine Below.setCell ?_ ?_ _) | (with_reducible refine below_drewN ?_ _) | (with_reducible refine Below.drew ?_) | (with_reducible refine below_via (by with_reducible assumption) ?_ ?_) | (first | (with_reducible assumption) | omega | (simp only [World.size_alloc, World.size_setCell, World.size_drew, World.heap_drewN] <;> omega) | (simp <;> omega)))))).mono ?_; rintro e w1 ⟨rfl, n1, rfl⟩)
        | (go_at_call 42; refine (HE2.out _ (by (repeat (first | (with_reducible exact Below.refl _ _) | (with_reducible assumption) | (with_reducible exact Hid.out (by with_reducible assumption)) | (with_reducible refine Below.alloc ?_ ?_ _) | (with_reducible refine Below.setCell ?_ ?_ _) | (with_reducible refine below_drewN ?_ _) | (with_reducible refine Below.drew ?_) | (with_reducible refine below_via (by with_reducible assumption) ?_ ?_) | (first | (with_reducible assumption) | omega | (simp only [World.size_alloc, World.size_setCell, World.size_drew, World.heap_drewN] <;> omega) | (simp <;> omega)))))).mono ?_; rintro e w2 ⟨rfl, n2, rfl⟩))
      go_ret
      exact ⟨by simp, by (repeat (first | (with_reducible exact Below.refl _ _) | (with_reducible assumption) | (with_reducible exact Hid.out (by with_reducible assumption)) | (with_reducible refine Below.alloc ?_ ?_ _) | (with_reducible refine Below.setCell ?_ ?_ _) | (with_reducible refine below_drewN ?_ _) | (with_reducible refine Below.drew ?_) | (with_reducible refine below_via (by with_reducible assumption) ?_ ?_) | (first | (with_reducible assumption) | omega | (simp only [World.size_alloc, World.size_setCell, World.size_drew, World.heap_drewN] <;> omega) | (simp <;> omega))))⟩
    | false =>
      go_enter Try.func16, Try.ntmps16
      go_wp2_with (first
        | (go_at_call 41; refine (HE1.out _ (by (repeat (first | (with_reducible exact Below.refl _ _) | (with_reducible assumption) | (with_reducible exact Hid.out (by with_reducible assumption)) | (with_reducible refine Below.alloc ?_ ?_ _) | (with_reducible refine Below.setCell ?_ ?_ _) | (with_reducible refine below_drewN ?_ _) | (with_reducible refine Below.drew ?_) | (with_reducible refine below_via (by with_reducible assumption) ?_ ?_) | (first | (with_reducible assumption) | omega | (simp only [World.size_alloc, World.size_setCell, World.size_drew, World.heap_drewN] <;> omega) | (simp <;> omega)))))).mono ?_; rintro e w1 ⟨rfl, n1, rfl⟩)
        | (go_at_call 42; refine (HE2.out _ (by (repeat (first | (with_reducible exact Below.refl _ _) | (with_reducible assumption) | (with_reducible exact Hid.out (by with_reducible assumption)) | (with_reducible refine Below.alloc ?_ ?_ _) | (with_reducible refine Below.setCell ?_ ?_ _) | (with_reducible refine below_drewN ?_ _) | (with_reducible refine Below.drew ?_) | (with_reducible refine below_via (by with_reducible assumption) ?_ ?_) | (first | (with_reducible assumption) | omega | (simp only [World.size_alloc, World.size_setCell, World.size_drew, World.heap_drewN] <;> omega) | (simp <;> omega)))))).mono ?_; rintro e w2 ⟨rfl, n2, rfl⟩))
      go_ret
      exact ⟨by simp, by (repeat (first | (with_reducible exact Below.refl _ _) | (with_reducible assumption) | (with_reducible exact Hid.out (by with_reducible assumption)) | (with_reducible refine Below.alloc ?_ ?_ _) | (with_reducible refine Below.setCell ?_ ?_ _) | (with_reducible refine below_drewN ?_ _) | (with_reducible refine Below.drew ?_) | (with_reducible refine below_via (by with_reducible assumption) ?_ ?_) | (first | (with_reducible assumption) | omega | (simp only [World.size_alloc, World.size_setCell, World.size_drew, World.heap_drewN] <;> omega) | (simp <;> omega))))⟩
  · have e1 : (L == L') = false := by simpa using h1
    have e2 : decide (L = L') = false := by simpa using h1
    rw [e2]
    clear h1 e2
    go_enter Try.func16, Try.ntmps16
    go_wp2
    go_ret
    exact ⟨by simp, by (repeat (first | (with_reducible exact Below.refl _ _) | (with_reducible assumption) | (with_reducible exact Hid.out (by with_reducible assumption)) | (with_reducible refine Below.alloc ?_ ?_ _) | (with_reducible refine Below.setCell ?_ ?_ _) | (with_reducible refine below_drewN ?_ _) | (with_reducible refine Below.drew ?_) | (with_reducible refine below_via (by with_reducible assumption) ?_ ?_) | (first | (with_reducible assumption) | omega | (simp only [World.size_alloc, World.size_setCell, World.size_drew, World.heap_drewN] <;> omega) | (simp <;> omega))))⟩

end Go.Proofs.Ytelckhfmchnpnaa

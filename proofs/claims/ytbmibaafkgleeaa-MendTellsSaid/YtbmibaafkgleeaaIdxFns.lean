/- Walks of the small functions on indexes: Great, above (both), right, Same (both), spoil. -/
import Derived.Test.YtbmibaafkgleeaaIdxPlain
import Derived.Test.YtbmibaafkgleeaaRowAll
import Derived.Test.YtbmibaafkgleeaaIdxTwin
namespace Go.Proofs.Ytbmibaafkgleeaa
open Go.RowKit
set_option linter.unusedVariables false
set_option linter.unusedSimpArgs false

/-- a call that answers a known value and leaves all that was there alone -/
def Ans (w : World) (v : Value) (e : Ending) (w' : World) : Prop := e = .returned v ∧ Below w.heap.size w w'
theorem Great18_no (L : Int) (ma ca : Option Addr) (m mc c cc : Nat) (hm : m ≤ 600) (hc : c ≤ 600) (w : World) :
    Calls Try.prog 9 #[ixV L ma m mc ca c cc] w (Ans w (.bool false)) := by
  go_enter Try.func9, Try.ntmps9
  go_wp2
  go_ret
  exact ⟨by first | rfl | (simp; omega), (Below.refl _ _).alloc (Nat.le_refl _) _⟩
theorem Great18_yes (L : Int) (ma ca : Option Addr) (m mc c cc : Nat) (h : 600 < m ∨ 600 < c) (w : World) :
    Calls Try.prog 9 #[ixV L ma m mc ca c cc] w (Ans w (.bool true)) := by
  by_cases hm : 600 < m
  · go_enter Try.func9, Try.ntmps9
    go_wp2
    go_ret
    exact ⟨by first | rfl | (simp; omega), (Below.refl _ _).alloc (Nat.le_refl _) _⟩
  · have hc : 600 < c := by omega
    clear h
    go_enter Try.func9, Try.ntmps9
    go_wp2
    go_ret
    exact ⟨by first | rfl | (simp; omega), (Below.refl _ _).alloc (Nat.le_refl _) _⟩

abbrev tdV (m c : Int) : Value := .agg #[.int .i64 m, .int .i64 c]
set_option maxHeartbeats 400000 in
theorem above_ok (am ac bm bc : Int) (h1 : 0 ≤ ac) (h2 : ac ≤ 65536) (h3 : 0 ≤ bc) (h4 : bc ≤ 65536) (w : World) :
    Calls Try.prog 54 #[tdV am ac, tdV bm bc] w (Ans w (tdV (abM am bm bc) (abC ac bc))) := by
  by_cases h : 0 < bc
  · have e1 : abM am bm bc = bm := if_pos h
    have e2 : abC ac bc = ac + bc := if_pos h
    rw [e1, e2]
    clear e1 e2
    go_enter Try.func54, Try.ntmps54
    go_wp2
    refine bodyPost_ret (results_c rfl rfl (run_loadVar_two Try.underlying92 rfl (by kernel_rfl) (v := .int .i64 bm) (u := .int .i64 (ac + bc)) (by (first | (with_reducible assumption) | ((simp only [World.frozen?_setCell, World.frozen?_drew, World.frozen?_drewN]) <;> (with_reducible assumption)) | ((repeat (first | (with_reducible assumption) | (with_reducible refine World.cell?_setCell_same _ _ _ (by with_reducible assumption)) | (rw [World.cell?_setCell_other _ _ _ _ (by intro e; simp at e; done)]) | (with_reducible refine cell_setCell_block ?_ ?_) | (rw [World.cell?_drew]) | (rw [World.cell?_drewN]) | (dsimp only; omega))); done) | (first | (with_reducible assumption) | ((try simp (disch := first | omega | (simp only [szW] <;> omega) | fail) only [ceW]) <;> first | (with_reducible assumption) | rfl)))) (by (first | (with_reducible assumption) | ((simp only [World.frozen?_setCell, World.frozen?_drew, World.frozen?_drewN]) <;> (with_reducible assumption)) | ((repeat (first | (with_reducible assumption) | (with_reducible refine World.cell?_setCell_same _ _ _ (by with_reducible assumption)) | (rw [World.cell?_setCell_other _ _ _ _ (by intro e; simp at e; done)]) | (with_reducible refine cell_setCell_block ?_ ?_) | (rw [World.cell?_drew]) | (rw [World.cell?_drewN]) | (dsimp only; omega))); done) | (first | (with_reducible assumption) | ((try simp (disch := first | omega | (simp only [szW] <;> omega) | fail) only [ceW]) <;> first | (with_reducible assumption) | rfl)))))) rfl ⟨rfl, by (repeat (first | with_reducible (first | exact Below.refl _ _ | assumption | exact Hid.out (by assumption) | refine Below.alloc ?_ ?_ _ | refine Below.setCell ?_ ?_ _ | refine below_drewN ?_ _ | refine Below.drew ?_ | refine below_via (by assumption) ?_ ?_) | (first | (with_reducible assumption) | omega | (simp only [szW] <;> omega) | (simp <;> omega))))⟩
  · have e1 : abM am bm bc = am := if_neg h
    have e2 : abC ac bc = ac := if_neg h
    rw [e1, e2]
    clear e1 e2
    go_enter Try.func54, Try.ntmps54
    go_wp2
    refine bodyPost_ret (results_c rfl rfl (run_loadVar_two Try.underlying92 rfl (by kernel_rfl) (v := .int .i64 am) (u := .int .i64 ac) (by (first | (with_reducible assumption) | ((simp only [World.frozen?_setCell, World.frozen?_drew, World.frozen?_drewN]) <;> (with_reducible assumption)) | ((repeat (first | (with_reducible assumption) | (with_reducible refine World.cell?_setCell_same _ _ _ (by with_reducible assumption)) | (rw [World.cell?_setCell_other _ _ _ _ (by intro e; simp at e; done)]) | (with_reducible refine cell_setCell_block ?_ ?_) | (rw [World.cell?_drew]) | (rw [World.cell?_drewN]) | (dsimp only; omega))); done) | (first | (with_reducible assumption) | ((try simp (disch := first | omega | (simp only [szW] <;> omega) | fail) only [ceW]) <;> first | (with_reducible assumption) | rfl)))) (by (first | (with_reducible assumption) | ((simp only [World.frozen?_setCell, World.frozen?_drew, World.frozen?_drewN]) <;> (with_reducible assumption)) | ((repeat (first | (with_reducible assumption) | (with_reducible refine World.cell?_setCell_same _ _ _ (by with_reducible assumption)) | (rw [World.cell?_setCell_other _ _ _ _ (by intro e; simp at e; done)]) | (with_reducible refine cell_setCell_block ?_ ?_) | (rw [World.cell?_drew]) | (rw [World.cell?_drewN]) | (dsimp only; omega))); done) | (first | (with_reducible assumption) | ((try simp (disch := first | omega | (simp only [szW] <;> omega) | fail) only [ceW]) <;> first | (with_reducible assumption) | rfl)))))) rfl ⟨rfl, by (repeat (first | with_reducible (first | exact Below.refl _ _ | assumption | exact Hid.out (by assumption) | refine Below.alloc ?_ ?_ _ | refine Below.setCell ?_ ?_ _ | refine below_drewN ?_ _ | refine Below.drew ?_ | refine below_via (by assumption) ?_ ?_) | (first | (with_reducible assumption) | omega | (simp only [szW] <;> omega) | (simp <;> omega))))⟩

set_option maxHeartbeats 400000 in
theorem above18_ok (am ac bm bc : Int) (h1 : 0 ≤ ac) (h2 : ac ≤ 65536) (h3 : 0 ≤ bc) (h4 : bc ≤ 65536) (w : World) :
    Calls Try.prog 83 #[tdV am ac, tdV bm bc] w (Ans w (tdV (abM am bm bc) (abC ac bc))) := by
  by_cases h : 0 < bc
  · have e1 : abM am bm bc = bm := if_pos h
    have e2 : abC ac bc = ac + bc := if_pos h
    rw [e1, e2]
    clear e1 e2
    go_enter Try.func83, Try.ntmps83
    go_wp2
    refine bodyPost_ret (results_c rfl rfl (run_loadVar_two Try.underlying125 rfl (by kernel_rfl) (v := .int .i64 bm) (u := .int .i64 (ac + bc)) (by (first | (with_reducible assumption) | ((simp only [World.frozen?_setCell, World.frozen?_drew, World.frozen?_drewN]) <;> (with_reducible assumption)) | ((repeat (first | (with_reducible assumption) | (with_reducible refine World.cell?_setCell_same _ _ _ (by with_reducible assumption)) | (rw [World.cell?_setCell_other _ _ _ _ (by intro e; simp at e; done)]) | (with_reducible refine cell_setCell_block ?_ ?_) | (rw [World.cell?_drew]) | (rw [World.cell?_drewN]) | (dsimp only; omega))); done) | (first | (with_reducible assumption) | ((try simp (disch := first | omega | (simp only [szW] <;> omega) | fail) only [ceW]) <;> first | (with_reducible assumption) | rfl)))) (by (first | (with_reducible assumption) | ((simp only [World.frozen?_setCell, World.frozen?_drew, World.frozen?_drewN]) <;> (with_reducible assumption)) | ((repeat (first | (with_reducible assumption) | (with_reducible refine World.cell?_setCell_same _ _ _ (by with_reducible assumption)) | (rw [World.cell?_setCell_other _ _ _ _ (by intro e; simp at e; done)]) | (with_reducible refine cell_setCell_block ?_ ?_) | (rw [World.cell?_drew]) | (rw [World.cell?_drewN]) | (dsimp only; omega))); done) | (first | (with_reducible assumption) | ((try simp (disch := first | omega | (simp only [szW] <;> omega) | fail) only [ceW]) <;> first | (with_reducible assumption) | rfl)))))) rfl ⟨rfl, by (repeat (first | with_reducible (first | exact Below.refl _ _ | assumption | exact Hid.out (by assumption) | refine Below.alloc ?_ ?_ _ | refine Below.setCell ?_ ?_ _ | refine below_drewN ?_ _ | refine Below.drew ?_ | refine below_via (by assumption) ?_ ?_) | (first | (with_reducible assumption) | omega | (simp only [szW] <;> omega) | (simp <;> omega))))⟩
  · have e1 : abM am bm bc = am := if_neg h
    have e2 : abC ac bc = ac := if_neg h
    rw [e1, e2]
    clear e1 e2
    go_enter Try.func83, Try.ntmps83
    go_wp2
    refine bodyPost_ret (results_c rfl rfl (run_loadVar_two Try.underlying125 rfl (by kernel_rfl) (v := .int .i64 am) (u := .int .i64 ac) (by (first | (with_reducible assumption) | ((simp only [World.frozen?_setCell, World.frozen?_drew, World.frozen?_drewN]) <;> (with_reducible assumption)) | ((repeat (first | (with_reducible assumption) | (with_reducible refine World.cell?_setCell_same _ _ _ (by with_reducible assumption)) | (rw [World.cell?_setCell_other _ _ _ _ (by intro e; simp at e; done)]) | (with_reducible refine cell_setCell_block ?_ ?_) | (rw [World.cell?_drew]) | (rw [World.cell?_drewN]) | (dsimp only; omega))); done) | (first | (with_reducible assumption) | ((try simp (disch := first | omega | (simp only [szW] <;> omega) | fail) only [ceW]) <;> first | (with_reducible assumption) | rfl)))) (by (first | (with_reducible assumption) | ((simp only [World.frozen?_setCell, World.frozen?_drew, World.frozen?_drewN]) <;> (with_reducible assumption)) | ((repeat (first | (with_reducible assumption) | (with_reducible refine World.cell?_setCell_same _ _ _ (by with_reducible assumption)) | (rw [World.cell?_setCell_other _ _ _ _ (by intro e; simp at e; done)]) | (with_reducible refine cell_setCell_block ?_ ?_) | (rw [World.cell?_drew]) | (rw [World.cell?_drewN]) | (dsimp only; omega))); done) | (first | (with_reducible assumption) | ((try simp (disch := first | omega | (simp only [szW] <;> omega) | fail) only [ceW]) <;> first | (with_reducible assumption) | rfl)))))) rfl ⟨rfl, by (repeat (first | with_reducible (first | exact Below.refl _ _ | assumption | exact Hid.out (by assumption) | refine Below.alloc ?_ ?_ _ | refine Below.setCell ?_ ?_ _ | refine below_drewN ?_ _ | refine Below.drew ?_ | refine below_via (by assumption) ?_ ?_) | (first | (with_reducible assumption) | omega | (simp only [szW] <;> omega) | (simp <;> omega))))⟩

def rtB (am ac bm bc : Int) : Bool := decide (ac = 0) || decide (bc = 0) || decide (am < bm)
theorem right_ok (am ac bm bc : Int) (w : World) :
    Calls Try.prog 84 #[tdV am ac, tdV bm bc] w (Ans w (.bool (rtB am ac bm bc))) := by
  unfold rtB
  by_cases h1 : ac = 0
  · have e1 : (ac == 0) = true := by simpa using h1
    have e2 : decide (ac = 0) = true := by simpa using h1
    rw [e2]
    go_enter Try.func84, Try.ntmps84
    go_wp2
    go_ret
    exact ⟨by simp, by (repeat (first | with_reducible (first | exact Below.refl _ _ | assumption | exact Hid.out (by assumption) | refine Below.alloc ?_ ?_ _ | refine Below.setCell ?_ ?_ _ | refine below_drewN ?_ _ | refine Below.drew ?_ | refine below_via (by assumption) ?_ ?_) | (first | (with_reducible assumption) | omega | (simp only [szW] <;> omega) | (simp <;> omega))))⟩
  · have e1 : (ac == 0) = false := by simpa using h1
    have e2 : decide (ac = 0) = false := by simpa using h1
    rw [e2]
    by_cases h2 : bc = 0
    · have e3 : (bc == 0) = true := by simpa using h2
      have e4 : decide (bc = 0) = true := by simpa using h2
      rw [e4]
      clear h1 h2
      go_enter Try.func84, Try.ntmps84
      go_wp2
      go_ret
      exact ⟨by simp, by (repeat (first | with_reducible (first | exact Below.refl _ _ | assumption | exact Hid.out (by assumption) | refine Below.alloc ?_ ?_ _ | refine Below.setCell ?_ ?_ _ | refine below_drewN ?_ _ | refine Below.drew ?_ | refine below_via (by assumption) ?_ ?_) | (first | (with_reducible assumption) | omega | (simp only [szW] <;> omega) | (simp <;> omega))))⟩
    · have e3 : (bc == 0) = false := by simpa using h2
      have e4 : decide (bc = 0) = false := by simpa using h2
      rw [e4]
      clear h1 h2
      go_enter Try.func84, Try.ntmps84
      go_wp2
      go_ret
      exact ⟨by simp, by (repeat (first | with_reducible (first | exact Below.refl _ _ | assumption | exact Hid.out (by assumption) | refine Below.alloc ?_ ?_ _ | refine Below.setCell ?_ ?_ _ | refine below_drewN ?_ _ | refine Below.drew ?_ | refine below_via (by assumption) ?_ ?_) | (first | (with_reducible assumption) | omega | (simp only [szW] <;> omega) | (simp <;> omega))))⟩
def ixEq (L : Int) (ms cs : List Int) (L' : Int) (ms' cs' : List Int) : Bool := decide (L = L') && decide (ms = ms') && decide (cs = cs')

set_option maxHeartbeats 400000 in
theorem Same18_ix (L L' : Int) (ma ca ma' ca' : Option Addr) (mc cc mc' cc' : Nat) (ms cs ms' cs' : List Int) (w : World) (hm : IsRow .i64 w ma ms) (hc : IsRow .i64 w ca cs) (hm' : IsRow .i64 w ma' ms') (hc' : IsRow .i64 w ca' cs') (hl : ms.length ≤ 100000) (hl2 : cs.length ≤ 100000) :
    Calls Try.prog 17 #[ixV L ma ms.length mc ca cs.length cc, ixV L' ma' ms'.length mc' ca' cs'.length cc'] w (Ans w (.bool (ixEq L ms cs L' ms' cs'))) := by
  have HE1 := Lib.hid (fun (W : World) (hb : Below w.heap.size w W) => SameKeys_ok ma ma' mc mc' ms ms' W (hm.below hb) (hm'.below hb) (by omega))
  have HE2 := Lib.hid (fun (W : World) (hb : Below w.heap.size w W) => SameNums_ok ca ca' cc cc' cs cs' W (hc.below hb) (hc'.below hb) (by omega))
  clear hm hc hm' hc' hl hl2
  unfold ixEq
  by_cases h1 : L = L'
  · have e1 : (L == L') = true := by simpa using h1
    have e2 : decide (L = L') = true := by simpa using h1
    rw [e2]
    clear h1 e2
    generalize hb1 : decide (ms = ms') = b1 at HE1 ⊢
    clear hb1
    generalize hb2 : decide (cs = cs') = b2 at HE2 ⊢
    clear hb2
    cases b1 with
    | true =>
      go_enter Try.func17, Try.ntmps17
      go_wp2_with (first
        | (go_at_call 47; refine (HE1.out _ (by (repeat (first | with_reducible (first | exact Below.refl _ _ | assumption | exact Hid.out (by assumption) | refine Below.alloc ?_ ?_ _ | refine Below.setCell ?_ ?_ _ | refine below_drewN ?_ _ | refine Below.drew ?_ | refine below_via (by assumption) ?_ ?_) | (first | (with_reducible assumption) | omega | (simp only [szW] <;> omega) | (simp <;> omega)))))).mono ?_; rintro e w1 ⟨rfl, n1, rfl⟩)
        | (go_at_call 48; refine (HE2.out _ (by (repeat (first | with_reducible (first | exact Below.refl _ _ | assumption | exact Hid.out (by assumption) | refine Below.alloc ?_ ?_ _ | refine Below.setCell ?_ ?_ _ | refine below_drewN ?_ _ | refine Below.drew ?_ | refine below_via (by assumption) ?_ ?_) | (first | (with_reducible assumption) | omega | (simp only [szW] <;> omega) | (simp <;> omega)))))).mono ?_; rintro e w2 ⟨rfl, n2, rfl⟩))
      go_ret
      exact ⟨by simp, by (repeat (first | with_reducible (first | exact Below.refl _ _ | assumption | exact Hid.out (by assumption) | refine Below.alloc ?_ ?_ _ | refine Below.setCell ?_ ?_ _ | refine below_drewN ?_ _ | refine Below.drew ?_ | refine below_via (by assumption) ?_ ?_) | (first | (with_reducible assumption) | omega | (simp only [szW] <;> omega) | (simp <;> omega))))⟩
    | false =>
      go_enter Try.func17, Try.ntmps17
      go_wp2_with (first
        | (go_at_call 47; refine (HE1.out _ (by (repeat (first | with_reducible (first | exact Below.refl _ _ | assumption | exact Hid.out (by assumption) | refine Below.alloc ?_ ?_ _ | refine Below.setCell ?_ ?_ _ | refine below_drewN ?_ _ | refine Below.drew ?_ | refine below_via (by assumption) ?_ ?_) | (first | (with_reducible assumption) | omega | (simp only [szW] <;> omega) | (simp <;> omega)))))).mono ?_; rintro e w1 ⟨rfl, n1, rfl⟩)
        | (go_at_call 48; refine (HE2.out _ (by (repeat (first | with_reducible (first | exact Below.refl _ _ | assumption | exact Hid.out (by assumption) | refine Below.alloc ?_ ?_ _ | refine Below.setCell ?_ ?_ _ | refine below_drewN ?_ _ | refine Below.drew ?_ | refine below_via (by assumption) ?_ ?_) | (first | (with_reducible assumption) | omega | (simp only [szW] <;> omega) | (simp <;> omega)))))).mono ?_; rintro e w2 ⟨rfl, n2, rfl⟩))
      go_ret
      exact ⟨by simp, by (repeat (first | with_reducible (first | exact Below.refl _ _ | assumption | exact Hid.out (by assumption) | refine Below.alloc ?_ ?_ _ | refine Below.setCell ?_ ?_ _ | refine below_drewN ?_ _ | refine Below.drew ?_ | refine below_via (by assumption) ?_ ?_) | (first | (with_reducible assumption) | omega | (simp only [szW] <;> omega) | (simp <;> omega))))⟩
  · have e1 : (L == L') = false := by simpa using h1
    have e2 : decide (L = L') = false := by simpa using h1
    rw [e2]
    clear h1 e2
    go_enter Try.func17, Try.ntmps17
    go_wp2
    go_ret
    exact ⟨by simp, by (repeat (first | with_reducible (first | exact Below.refl _ _ | assumption | exact Hid.out (by assumption) | refine Below.alloc ?_ ?_ _ | refine Below.setCell ?_ ?_ _ | refine below_drewN ?_ _ | refine Below.drew ?_ | refine below_via (by assumption) ?_ ?_) | (first | (with_reducible assumption) | omega | (simp only [szW] <;> omega) | (simp <;> omega))))⟩
end Go.Proofs.Ytbmibaafkgleeaa

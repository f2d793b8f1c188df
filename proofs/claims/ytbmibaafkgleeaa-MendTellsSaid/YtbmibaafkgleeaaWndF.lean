/- Merged: WindowOk, FitLaw. -/
import Derived.Test.YtbmibaafkgleeaaWindow
import Derived.Test.YtbmibaafkgleeaaMendPT
namespace Go.Proofs.Ytbmibaafkgleeaa
set_option linter.unusedVariables false
set_option linter.unusedSimpArgs false
section
open Go.RowKit Go.Shelf

set_option maxRecDepth 100000 in
set_option maxHeartbeats 1000000 in
theorem Wnd_no1 (seg : Int) (ma ica wa ka va ca : Option Addr) (mc icc n1 n2 wc kc vc cc lw lk lv lc : Nat) (laid l lo hi bL : Int) (bm bc : List Int) (y : Int) (hy : y ≠ 0) (w : World)
    (BI : Hid (∀ W, Below w.heap.size w W → Calls Try.prog 23 #[.agg #[.int .i64 seg, .slice wa lw wc, .slice ka lk kc, .slice va lv vc, .slice ca lc cc, .int .u64 laid]] W (FreshIx2 W bL bm bc (.int .i64 y)))) :
    Calls Try.prog 15 #[ixV l ma n1 mc ica n2 icc, .agg #[.int .i64 seg, .slice wa lw wc, .slice ka lk kc, .slice va lv vc, .slice ca lc cc, .int .u64 laid], .int .i64 lo, .int .i64 hi] w (FreshIx2 w 0 [] [] (.int .i64 y)) := by
  have g1 : (y != 0) = true := by simpa using hy
  clear hy
  go_enter Try.func15, Try.ntmps15
  go_wp2
  refine wp_scope_loop 0 (fun _ _ _ => False) rfl (fun _ _ _ h => h.elim) ?_
  intro H hH hp
  clear hH hp
  go_wp2_with fail
  refine (BI.out _ (by (repeat (first | with_reducible (first | exact Below.refl _ _ | assumption | exact Hid.out (by assumption) | refine Below.alloc ?_ ?_ _ | refine Below.setCell ?_ ?_ _ | refine below_drewN ?_ _ | refine Below.drew ?_ | refine below_via (by assumption) ?_ ?_) | (first | (with_reducible assumption) | omega | (simp only [szW] <;> omega) | (simp <;> omega)))))).mono ?_
  rintro e w1 ⟨v, u, rfl, o1, o2, hb1⟩
  have hz_w1 := hb1.size
  try simp only [World.size_alloc, World.size_setCell] at hz_w1
  have all_c : w1.cell? ⟨w.heap.size, 0, none⟩ = some (.int .i64 l) ∧ w1.cell? ⟨w.heap.size, 1, none⟩ = some (.slice ma n1 mc) ∧ w1.cell? ⟨w.heap.size, 2, none⟩ = some (.slice ica n2 icc) ∧ w1.cell? ⟨w.heap.size + 1, 0, none⟩ = some (.int .i64 seg) ∧ w1.cell? ⟨w.heap.size + 1, 1, none⟩ = some (.slice wa lw wc) ∧ w1.cell? ⟨w.heap.size + 1, 2, none⟩ = some (.slice ka lk kc) ∧ w1.cell? ⟨w.heap.size + 1, 3, none⟩ = some (.slice va lv vc) ∧ w1.cell? ⟨w.heap.size + 1, 4, none⟩ = some (.slice ca lc cc) ∧ w1.cell? ⟨w.heap.size + 1, 5, none⟩ = some (.int .u64 laid) ∧ w1.cell? ⟨w.heap.size + 1 + 1, 0, none⟩ = some (.int .i64 0) ∧ w1.cell? ⟨w.heap.size + 1 + 1, 1, none⟩ = some (.slice none 0 0) ∧ w1.cell? ⟨w.heap.size + 1 + 1, 2, none⟩ = some (.slice none 0 0) := by refine ⟨?_, ?_, ?_, ?_, ?_, ?_, ?_, ?_, ?_, ?_, ?_, ?_⟩ <;> (refine (hb1.cell ?_).trans ?_ <;> first | (first | (with_reducible assumption) | omega | (simp only [szW] <;> omega) | (simp <;> omega)) | (first | (with_reducible assumption) | ((try simp (disch := first | omega | (simp only [szW] <;> omega) | fail) only [ceW]) <;> first | (with_reducible assumption) | rfl)))
  have all_f : w1.frozen? ⟨w.heap.size + 1 + 1, 0, none⟩ = false ∧ w1.frozen? ⟨w.heap.size + 1 + 1, 1, none⟩ = false ∧ w1.frozen? ⟨w.heap.size + 1 + 1, 2, none⟩ = false := by refine ⟨?_, ?_, ?_⟩ <;> (refine (hb1.frozen ?_).trans ?_ <;> first | (first | (with_reducible assumption) | omega | (simp only [szW] <;> omega) | (simp <;> omega)) | (first | (with_reducible assumption) | ((try simp (disch := first | omega | (simp only [szW] <;> omega) | fail) only [ceW]) <;> first | (with_reducible assumption) | rfl)))
  have all_z : w.heap.size < w1.heap.size ∧ w.heap.size + 1 < w1.heap.size ∧ w.heap.size + 1 + 1 < w1.heap.size := by refine ⟨?_, ?_, ?_⟩ <;> (omega)
  obtain ⟨c_x0, c_x1, c_x2, c_s0, c_s1, c_s2, c_s3, c_s4, c_s5, c_r0, c_r1, c_r2⟩ := all_c
  try clear all_c
  obtain ⟨f_r0, f_r1, f_r2⟩ := all_f
  try clear all_f
  obtain ⟨z_x, z_s, z_r⟩ := all_z
  try clear all_z
  have hB1 : Below w.heap.size w w1 := by (repeat (first | with_reducible (first | exact Below.refl _ _ | assumption | exact Hid.out (by assumption) | refine Below.alloc ?_ ?_ _ | refine Below.setCell ?_ ?_ _ | refine below_drewN ?_ _ | refine Below.drew ?_ | refine below_via (by assumption) ?_ ?_) | (first | (with_reducible assumption) | omega | (simp only [szW] <;> omega) | (simp <;> omega))))
  obtain ⟨va1, vc1, rfl, -⟩ := owns_news o1
  obtain ⟨ua1, uc1, rfl, -⟩ := owns_news o2
  clear o1 o2 hb1
  go_wp2
  simp only [Exit.jump]
  have hsw := three_set (w2 := w1) (b := w.heap.size + 1 + 1) (x := .int .i64 0) (y := .slice none 0 0) (z := .slice none 0 0) c_r0 c_r1 c_r2
  have hs7 : (((w1.setCell ⟨w.heap.size + 1 + 1, 0, none⟩ (.int .i64 0)).setCell ⟨w.heap.size + 1 + 1, 1, none⟩ (.slice none 0 0)).setCell ⟨w.heap.size + 1 + 1, 2, none⟩ (.slice none 0 0)).heap.size = w1.heap.size := by simp only [World.size_setCell]
  have hB7 : Below w.heap.size w (((w1.setCell ⟨w.heap.size + 1 + 1, 0, none⟩ (.int .i64 0)).setCell ⟨w.heap.size + 1 + 1, 1, none⟩ (.slice none 0 0)).setCell ⟨w.heap.size + 1 + 1, 2, none⟩ (.slice none 0 0)) := ((hB1.setCell (by dsimp only; omega) _).setCell (by dsimp only; omega) _).setCell (by dsimp only; omega) _
  generalize (((w1.setCell ⟨w.heap.size + 1 + 1, 0, none⟩ (.int .i64 0)).setCell ⟨w.heap.size + 1 + 1, 1, none⟩ (.slice none 0 0)).setCell ⟨w.heap.size + 1 + 1, 2, none⟩ (.slice none 0 0)) = w7 at *
  have hal : Below w7.heap.size w7 (w7.alloc (.cells #[.int .i64 bL, .slice va1 bm.length vc1, .slice ua1 bc.length uc1] 25)) := (Below.refl _ w7).alloc (Nat.le_refl _) _
  refine bodyPost_ret (results_ct rfl rfl (run_loadVar_many _ Try.underlying25 rfl (by kernel_rfl) (three_at ((hal.cell (by dsimp only; omega)).trans hsw.1) ((hal.cell (by dsimp only; omega)).trans hsw.2.1) ((hal.cell (by dsimp only; omega)).trans hsw.2.2)))) rfl ⟨_, _, rfl, World.ownsRow_nil _ _ _ _, World.ownsRow_nil _ _ _ _, ?_⟩
  exact hB7.alloc (by omega) _

set_option maxRecDepth 100000 in
set_option maxHeartbeats 1000000 in
theorem Wnd_no2 (seg : Int) (ma ica wa ka va ca : Option Addr) (mc icc n1 n2 wc kc vc cc lw lk lv lc : Nat) (laid l lo hi bL : Int) (bm bc : List Int) (y : Int) (hy : y ≠ 0) (w : World)
    (BI : Hid (∀ W, Below w.heap.size w W → Calls Try.prog 23 #[.agg #[.int .i64 seg, .slice wa lw wc, .slice ka lk kc, .slice va lv vc, .slice ca lc cc, .int .u64 laid]] W (FreshIx2 W bL bm bc (.int .i64 0))))
    (CK : Hid (∀ W, Below w.heap.size w W → Calls Try.prog 38 #[ixV l ma n1 mc ica n2 icc] W (AnsB W (.int .i64 y)))) :
    Calls Try.prog 15 #[ixV l ma n1 mc ica n2 icc, .agg #[.int .i64 seg, .slice wa lw wc, .slice ka lk kc, .slice va lv vc, .slice ca lc cc, .int .u64 laid], .int .i64 lo, .int .i64 hi] w (FreshIx2 w 0 [] [] (.int .i64 8)) := by
  have g1 : (y != 0) = true := by simpa using hy
  clear hy
  go_enter Try.func15, Try.ntmps15
  go_wp2
  refine wp_scope_loop 0 (fun _ _ _ => False) rfl (fun _ _ _ h => h.elim) ?_
  intro H hH hp
  clear hH hp
  go_wp2_with fail
  refine (BI.out _ (by (repeat (first | with_reducible (first | exact Below.refl _ _ | assumption | exact Hid.out (by assumption) | refine Below.alloc ?_ ?_ _ | refine Below.setCell ?_ ?_ _ | refine below_drewN ?_ _ | refine Below.drew ?_ | refine below_via (by assumption) ?_ ?_) | (first | (with_reducible assumption) | omega | (simp only [szW] <;> omega) | (simp <;> omega)))))).mono ?_
  rintro e w1 ⟨v, u, rfl, o1, o2, hb1⟩
  have hz_w1 := hb1.size
  try simp only [World.size_alloc, World.size_setCell] at hz_w1
  have all_c : w1.cell? ⟨w.heap.size, 0, none⟩ = some (.int .i64 l) ∧ w1.cell? ⟨w.heap.size, 1, none⟩ = some (.slice ma n1 mc) ∧ w1.cell? ⟨w.heap.size, 2, none⟩ = some (.slice ica n2 icc) ∧ w1.cell? ⟨w.heap.size + 1, 0, none⟩ = some (.int .i64 seg) ∧ w1.cell? ⟨w.heap.size + 1, 1, none⟩ = some (.slice wa lw wc) ∧ w1.cell? ⟨w.heap.size + 1, 2, none⟩ = some (.slice ka lk kc) ∧ w1.cell? ⟨w.heap.size + 1, 3, none⟩ = some (.slice va lv vc) ∧ w1.cell? ⟨w.heap.size + 1, 4, none⟩ = some (.slice ca lc cc) ∧ w1.cell? ⟨w.heap.size + 1, 5, none⟩ = some (.int .u64 laid) ∧ w1.cell? ⟨w.heap.size + 1 + 1, 0, none⟩ = some (.int .i64 0) ∧ w1.cell? ⟨w.heap.size + 1 + 1, 1, none⟩ = some (.slice none 0 0) ∧ w1.cell? ⟨w.heap.size + 1 + 1, 2, none⟩ = some (.slice none 0 0) := by refine ⟨?_, ?_, ?_, ?_, ?_, ?_, ?_, ?_, ?_, ?_, ?_, ?_⟩ <;> (refine (hb1.cell ?_).trans ?_ <;> first | (first | (with_reducible assumption) | omega | (simp only [szW] <;> omega) | (simp <;> omega)) | (first | (with_reducible assumption) | ((try simp (disch := first | omega | (simp only [szW] <;> omega) | fail) only [ceW]) <;> first | (with_reducible assumption) | rfl)))
  have all_f : w1.frozen? ⟨w.heap.size + 1 + 1, 0, none⟩ = false ∧ w1.frozen? ⟨w.heap.size + 1 + 1, 1, none⟩ = false ∧ w1.frozen? ⟨w.heap.size + 1 + 1, 2, none⟩ = false := by refine ⟨?_, ?_, ?_⟩ <;> (refine (hb1.frozen ?_).trans ?_ <;> first | (first | (with_reducible assumption) | omega | (simp only [szW] <;> omega) | (simp <;> omega)) | (first | (with_reducible assumption) | ((try simp (disch := first | omega | (simp only [szW] <;> omega) | fail) only [ceW]) <;> first | (with_reducible assumption) | rfl)))
  have all_z : w.heap.size < w1.heap.size ∧ w.heap.size + 1 < w1.heap.size ∧ w.heap.size + 1 + 1 < w1.heap.size := by refine ⟨?_, ?_, ?_⟩ <;> (omega)
  obtain ⟨c_x0, c_x1, c_x2, c_s0, c_s1, c_s2, c_s3, c_s4, c_s5, c_r0, c_r1, c_r2⟩ := all_c
  try clear all_c
  obtain ⟨f_r0, f_r1, f_r2⟩ := all_f
  try clear all_f
  obtain ⟨z_x, z_s, z_r⟩ := all_z
  try clear all_z
  have hB1 : Below w.heap.size w w1 := by (repeat (first | with_reducible (first | exact Below.refl _ _ | assumption | exact Hid.out (by assumption) | refine Below.alloc ?_ ?_ _ | refine Below.setCell ?_ ?_ _ | refine below_drewN ?_ _ | refine Below.drew ?_ | refine below_via (by assumption) ?_ ?_) | (first | (with_reducible assumption) | omega | (simp only [szW] <;> omega) | (simp <;> omega))))
  obtain ⟨va1, vc1, rfl, -⟩ := owns_news o1
  obtain ⟨ua1, uc1, rfl, -⟩ := owns_news o2
  clear o1 o2 hb1
  go_wp2_with fail
  refine (CK.out _ (by (repeat (first | with_reducible (first | exact Below.refl _ _ | assumption | exact Hid.out (by assumption) | refine Below.alloc ?_ ?_ _ | refine Below.setCell ?_ ?_ _ | refine below_drewN ?_ _ | refine Below.drew ?_ | refine below_via (by assumption) ?_ ?_) | (first | (with_reducible assumption) | omega | (simp only [szW] <;> omega) | (simp <;> omega)))))).mono ?_
  rintro e w2 ⟨rfl, hb2⟩
  have hz_w2 := hb2.size
  try simp only [World.size_alloc, World.size_setCell] at hz_w2
  have all_c : w2.cell? ⟨w.heap.size, 0, none⟩ = some (.int .i64 l) ∧ w2.cell? ⟨w.heap.size, 1, none⟩ = some (.slice ma n1 mc) ∧ w2.cell? ⟨w.heap.size, 2, none⟩ = some (.slice ica n2 icc) ∧ w2.cell? ⟨w.heap.size + 1, 0, none⟩ = some (.int .i64 seg) ∧ w2.cell? ⟨w.heap.size + 1, 1, none⟩ = some (.slice wa lw wc) ∧ w2.cell? ⟨w.heap.size + 1, 2, none⟩ = some (.slice ka lk kc) ∧ w2.cell? ⟨w.heap.size + 1, 3, none⟩ = some (.slice va lv vc) ∧ w2.cell? ⟨w.heap.size + 1, 4, none⟩ = some (.slice ca lc cc) ∧ w2.cell? ⟨w.heap.size + 1, 5, none⟩ = some (.int .u64 laid) ∧ w2.cell? ⟨w.heap.size + 1 + 1, 0, none⟩ = some (.int .i64 0) ∧ w2.cell? ⟨w.heap.size + 1 + 1, 1, none⟩ = some (.slice none 0 0) ∧ w2.cell? ⟨w.heap.size + 1 + 1, 2, none⟩ = some (.slice none 0 0) := by refine ⟨?_, ?_, ?_, ?_, ?_, ?_, ?_, ?_, ?_, ?_, ?_, ?_⟩ <;> (refine (hb2.cell ?_).trans ?_ <;> first | (first | (with_reducible assumption) | omega | (simp only [szW] <;> omega) | (simp <;> omega)) | (first | (with_reducible assumption) | ((try simp (disch := first | omega | (simp only [szW] <;> omega) | fail) only [ceW]) <;> first | (with_reducible assumption) | rfl)))
  have all_f : w2.frozen? ⟨w.heap.size + 1 + 1, 0, none⟩ = false ∧ w2.frozen? ⟨w.heap.size + 1 + 1, 1, none⟩ = false ∧ w2.frozen? ⟨w.heap.size + 1 + 1, 2, none⟩ = false := by refine ⟨?_, ?_, ?_⟩ <;> (refine (hb2.frozen ?_).trans ?_ <;> first | (first | (with_reducible assumption) | omega | (simp only [szW] <;> omega) | (simp <;> omega)) | (first | (with_reducible assumption) | ((try simp (disch := first | omega | (simp only [szW] <;> omega) | fail) only [ceW]) <;> first | (with_reducible assumption) | rfl)))
  have all_z : w.heap.size < w2.heap.size ∧ w.heap.size + 1 < w2.heap.size ∧ w.heap.size + 1 + 1 < w2.heap.size := by refine ⟨?_, ?_, ?_⟩ <;> (omega)
  clear c_x0 c_x1 c_x2 c_s0 c_s1 c_s2 c_s3 c_s4 c_s5 c_r0 c_r1 c_r2 f_r0 f_r1 f_r2 z_x z_s z_r
  obtain ⟨c_x0, c_x1, c_x2, c_s0, c_s1, c_s2, c_s3, c_s4, c_s5, c_r0, c_r1, c_r2⟩ := all_c
  try clear all_c
  obtain ⟨f_r0, f_r1, f_r2⟩ := all_f
  try clear all_f
  obtain ⟨z_x, z_s, z_r⟩ := all_z
  try clear all_z
  have hB2 : Below w.heap.size w w2 := by (repeat (first | with_reducible (first | exact Below.refl _ _ | assumption | exact Hid.out (by assumption) | refine Below.alloc ?_ ?_ _ | refine Below.setCell ?_ ?_ _ | refine below_drewN ?_ _ | refine Below.drew ?_ | refine below_via (by assumption) ?_ ?_) | (first | (with_reducible assumption) | omega | (simp only [szW] <;> omega) | (simp <;> omega))))
  clear hb2
  go_wp2
  simp only [Exit.jump]
  have hsw := three_set (w2 := w2) (b := w.heap.size + 1 + 1) (x := .int .i64 0) (y := .slice none 0 0) (z := .slice none 0 0) (by (first | (with_reducible assumption) | ((try simp (disch := first | omega | (simp only [szW] <;> omega) | fail) only [ceW]) <;> first | (with_reducible assumption) | rfl))) (by (first | (with_reducible assumption) | ((try simp (disch := first | omega | (simp only [szW] <;> omega) | fail) only [ceW]) <;> first | (with_reducible assumption) | rfl))) (by (first | (with_reducible assumption) | ((try simp (disch := first | omega | (simp only [szW] <;> omega) | fail) only [ceW]) <;> first | (with_reducible assumption) | rfl)))
  refine bodyPost_ret (results_ct rfl rfl (run_loadVar_many _ Try.underlying25 rfl (by kernel_rfl) (three_at hsw.1 hsw.2.1 hsw.2.2))) rfl ⟨_, _, rfl, World.ownsRow_nil _ _ _ _, World.ownsRow_nil _ _ _ _, ?_⟩
  exact ((hB2.setCell (by dsimp only; omega) _).setCell (by dsimp only; omega) _).setCell (by dsimp only; omega) _

set_option maxRecDepth 100000 in
set_option maxHeartbeats 1000000 in
theorem Wnd_no3 (seg : Int) (ma ica wa ka va ca : Option Addr) (mc icc n1 n2 wc kc vc cc lw lk lv lc : Nat) (laid l lo hi bL : Int) (bm bc : List Int) (F : Int) (h : F ≠ lc ∨ (F = lc ∧ lo < 0) ∨ (F = lc ∧ 0 ≤ lo ∧ hi < lo) ∨ (F = lc ∧ 0 ≤ lo ∧ lo ≤ hi ∧ F < hi)) (w : World)
    (BI : Hid (∀ W, Below w.heap.size w W → Calls Try.prog 23 #[.agg #[.int .i64 seg, .slice wa lw wc, .slice ka lk kc, .slice va lv vc, .slice ca lc cc, .int .u64 laid]] W (FreshIx2 W bL bm bc (.int .i64 0))))
    (CK : Hid (∀ W, Below w.heap.size w W → Calls Try.prog 38 #[ixV l ma n1 mc ica n2 icc] W (AnsB W (.int .i64 0))))
    (LF : Hid (∀ W, Calls Try.prog 39 #[.int .i64 l, .int .i64 0] W fun e w' => e = .returned (.tuple #[.int .i64 F, .int .i64 0]) ∧ W = w')) :
    Calls Try.prog 15 #[ixV l ma n1 mc ica n2 icc, .agg #[.int .i64 seg, .slice wa lw wc, .slice ka lk kc, .slice va lv vc, .slice ca lc cc, .int .u64 laid], .int .i64 lo, .int .i64 hi] w (FreshIx2 w 0 [] [] (.int .i64 2)) := by
  obtain ⟨b1, b2, b3, b4, hh⟩ : ∃ b1 b2 b3 b4 : Bool, (F != (lc : Int)) = b1 ∧ decide (lo < 0) = b2 ∧ decide (lo > hi) = b3 ∧ decide (hi > F) = b4 ∧ (b1 || (b2 || (b3 || b4))) = true := by
    refine ⟨_, _, _, _, rfl, rfl, rfl, rfl, ?_⟩
    simp only [Bool.or_eq_true, bne_iff_ne, decide_eq_true_eq]
    rcases h with h | h | h | h
    · exact .inl h
    · exact .inr (.inl h.2)
    · exact .inr (.inr (.inl h.2.2))
    · exact .inr (.inr (.inr h.2.2.2))
  obtain ⟨g1, g2, g3, g4, g5⟩ := hh
  clear h
  cases b1 with
  | true =>
    clear g2 g3 g4
    go_enter Try.func15, Try.ntmps15
    go_wp2
    refine wp_scope_loop 0 (fun _ _ _ => False) rfl (fun _ _ _ h => h.elim) ?_
    intro H hH hp
    clear hH hp
    go_wp2_with fail
    refine (BI.out _ (by (repeat (first | with_reducible (first | exact Below.refl _ _ | assumption | exact Hid.out (by assumption) | refine Below.alloc ?_ ?_ _ | refine Below.setCell ?_ ?_ _ | refine below_drewN ?_ _ | refine Below.drew ?_ | refine below_via (by assumption) ?_ ?_) | (first | (with_reducible assumption) | omega | (simp only [szW] <;> omega) | (simp <;> omega)))))).mono ?_
    rintro e w1 ⟨v, u, rfl, o1, o2, hb1⟩
    have hz_w1 := hb1.size
    try simp only [World.size_alloc, World.size_setCell] at hz_w1
    have all_c : w1.cell? ⟨w.heap.size, 0, none⟩ = some (.int .i64 l) ∧ w1.cell? ⟨w.heap.size, 1, none⟩ = some (.slice ma n1 mc) ∧ w1.cell? ⟨w.heap.size, 2, none⟩ = some (.slice ica n2 icc) ∧ w1.cell? ⟨w.heap.size + 1, 0, none⟩ = some (.int .i64 seg) ∧ w1.cell? ⟨w.heap.size + 1, 1, none⟩ = some (.slice wa lw wc) ∧ w1.cell? ⟨w.heap.size + 1, 2, none⟩ = some (.slice ka lk kc) ∧ w1.cell? ⟨w.heap.size + 1, 3, none⟩ = some (.slice va lv vc) ∧ w1.cell? ⟨w.heap.size + 1, 4, none⟩ = some (.slice ca lc cc) ∧ w1.cell? ⟨w.heap.size + 1, 5, none⟩ = some (.int .u64 laid) ∧ w1.cell? ⟨w.heap.size + 1 + 1, 0, none⟩ = some (.int .i64 0) ∧ w1.cell? ⟨w.heap.size + 1 + 1, 1, none⟩ = some (.slice none 0 0) ∧ w1.cell? ⟨w.heap.size + 1 + 1, 2, none⟩ = some (.slice none 0 0) := by refine ⟨?_, ?_, ?_, ?_, ?_, ?_, ?_, ?_, ?_, ?_, ?_, ?_⟩ <;> (refine (hb1.cell ?_).trans ?_ <;> first | (first | (with_reducible assumption) | omega | (simp only [szW] <;> omega) | (simp <;> omega)) | (first | (with_reducible assumption) | ((try simp (disch := first | omega | (simp only [szW] <;> omega) | fail) only [ceW]) <;> first | (with_reducible assumption) | rfl)))
    have all_f : w1.frozen? ⟨w.heap.size + 1 + 1, 0, none⟩ = false ∧ w1.frozen? ⟨w.heap.size + 1 + 1, 1, none⟩ = false ∧ w1.frozen? ⟨w.heap.size + 1 + 1, 2, none⟩ = false := by refine ⟨?_, ?_, ?_⟩ <;> (refine (hb1.frozen ?_).trans ?_ <;> first | (first | (with_reducible assumption) | omega | (simp only [szW] <;> omega) | (simp <;> omega)) | (first | (with_reducible assumption) | ((try simp (disch := first | omega | (simp only [szW] <;> omega) | fail) only [ceW]) <;> first | (with_reducible assumption) | rfl)))
    have all_z : w.heap.size < w1.heap.size ∧ w.heap.size + 1 < w1.heap.size ∧ w.heap.size + 1 + 1 < w1.heap.size := by refine ⟨?_, ?_, ?_⟩ <;> (omega)
    obtain ⟨c_x0, c_x1, c_x2, c_s0, c_s1, c_s2, c_s3, c_s4, c_s5, c_r0, c_r1, c_r2⟩ := all_c
    try clear all_c
    obtain ⟨f_r0, f_r1, f_r2⟩ := all_f
    try clear all_f
    obtain ⟨z_x, z_s, z_r⟩ := all_z
    try clear all_z
    have hB1 : Below w.heap.size w w1 := by (repeat (first | with_reducible (first | exact Below.refl _ _ | assumption | exact Hid.out (by assumption) | refine Below.alloc ?_ ?_ _ | refine Below.setCell ?_ ?_ _ | refine below_drewN ?_ _ | refine Below.drew ?_ | refine below_via (by assumption) ?_ ?_) | (first | (with_reducible assumption) | omega | (simp only [szW] <;> omega) | (simp <;> omega))))
    obtain ⟨va1, vc1, rfl, -⟩ := owns_news o1
    obtain ⟨ua1, uc1, rfl, -⟩ := owns_news o2
    clear o1 o2 hb1
    go_wp2_with fail
    refine (CK.out _ (by (repeat (first | with_reducible (first | exact Below.refl _ _ | assumption | exact Hid.out (by assumption) | refine Below.alloc ?_ ?_ _ | refine Below.setCell ?_ ?_ _ | refine below_drewN ?_ _ | refine Below.drew ?_ | refine below_via (by assumption) ?_ ?_) | (first | (with_reducible assumption) | omega | (simp only [szW] <;> omega) | (simp <;> omega)))))).mono ?_
    rintro e w2 ⟨rfl, hb2⟩
    have hz_w2 := hb2.size
    try simp only [World.size_alloc, World.size_setCell] at hz_w2
    have all_c : w2.cell? ⟨w.heap.size, 0, none⟩ = some (.int .i64 l) ∧ w2.cell? ⟨w.heap.size, 1, none⟩ = some (.slice ma n1 mc) ∧ w2.cell? ⟨w.heap.size, 2, none⟩ = some (.slice ica n2 icc) ∧ w2.cell? ⟨w.heap.size + 1, 0, none⟩ = some (.int .i64 seg) ∧ w2.cell? ⟨w.heap.size + 1, 1, none⟩ = some (.slice wa lw wc) ∧ w2.cell? ⟨w.heap.size + 1, 2, none⟩ = some (.slice ka lk kc) ∧ w2.cell? ⟨w.heap.size + 1, 3, none⟩ = some (.slice va lv vc) ∧ w2.cell? ⟨w.heap.size + 1, 4, none⟩ = some (.slice ca lc cc) ∧ w2.cell? ⟨w.heap.size + 1, 5, none⟩ = some (.int .u64 laid) ∧ w2.cell? ⟨w.heap.size + 1 + 1, 0, none⟩ = some (.int .i64 0) ∧ w2.cell? ⟨w.heap.size + 1 + 1, 1, none⟩ = some (.slice none 0 0) ∧ w2.cell? ⟨w.heap.size + 1 + 1, 2, none⟩ = some (.slice none 0 0) := by refine ⟨?_, ?_, ?_, ?_, ?_, ?_, ?_, ?_, ?_, ?_, ?_, ?_⟩ <;> (refine (hb2.cell ?_).trans ?_ <;> first | (first | (with_reducible assumption) | omega | (simp only [szW] <;> omega) | (simp <;> omega)) | (first | (with_reducible assumption) | ((try simp (disch := first | omega | (simp only [szW] <;> omega) | fail) only [ceW]) <;> first | (with_reducible assumption) | rfl)))
    have all_f : w2.frozen? ⟨w.heap.size + 1 + 1, 0, none⟩ = false ∧ w2.frozen? ⟨w.heap.size + 1 + 1, 1, none⟩ = false ∧ w2.frozen? ⟨w.heap.size + 1 + 1, 2, none⟩ = false := by refine ⟨?_, ?_, ?_⟩ <;> (refine (hb2.frozen ?_).trans ?_ <;> first | (first | (with_reducible assumption) | omega | (simp only [szW] <;> omega) | (simp <;> omega)) | (first | (with_reducible assumption) | ((try simp (disch := first | omega | (simp only [szW] <;> omega) | fail) only [ceW]) <;> first | (with_reducible assumption) | rfl)))
    have all_z : w.heap.size < w2.heap.size ∧ w.heap.size + 1 < w2.heap.size ∧ w.heap.size + 1 + 1 < w2.heap.size := by refine ⟨?_, ?_, ?_⟩ <;> (omega)
    clear c_x0 c_x1 c_x2 c_s0 c_s1 c_s2 c_s3 c_s4 c_s5 c_r0 c_r1 c_r2 f_r0 f_r1 f_r2 z_x z_s z_r
    obtain ⟨c_x0, c_x1, c_x2, c_s0, c_s1, c_s2, c_s3, c_s4, c_s5, c_r0, c_r1, c_r2⟩ := all_c
    try clear all_c
    obtain ⟨f_r0, f_r1, f_r2⟩ := all_f
    try clear all_f
    obtain ⟨z_x, z_s, z_r⟩ := all_z
    try clear all_z
    have hB2 : Below w.heap.size w w2 := by (repeat (first | with_reducible (first | exact Below.refl _ _ | assumption | exact Hid.out (by assumption) | refine Below.alloc ?_ ?_ _ | refine Below.setCell ?_ ?_ _ | refine below_drewN ?_ _ | refine Below.drew ?_ | refine below_via (by assumption) ?_ ?_) | (first | (with_reducible assumption) | omega | (simp only [szW] <;> omega) | (simp <;> omega))))
    clear hb2
    go_wp2_with fail
    refine (LF.out _).mono ?_
    rintro e w' ⟨rfl, rfl⟩
    go_wp2
    simp only [Exit.jump]
    have hsw := three_set (w2 := w2) (b := w.heap.size + 1 + 1) (x := .int .i64 0) (y := .slice none 0 0) (z := .slice none 0 0) (by (first | (with_reducible assumption) | ((try simp (disch := first | omega | (simp only [szW] <;> omega) | fail) only [ceW]) <;> first | (with_reducible assumption) | rfl))) (by (first | (with_reducible assumption) | ((try simp (disch := first | omega | (simp only [szW] <;> omega) | fail) only [ceW]) <;> first | (with_reducible assumption) | rfl))) (by (first | (with_reducible assumption) | ((try simp (disch := first | omega | (simp only [szW] <;> omega) | fail) only [ceW]) <;> first | (with_reducible assumption) | rfl)))
    refine bodyPost_ret (results_ct rfl rfl (run_loadVar_many _ Try.underlying25 rfl (by kernel_rfl) (three_at hsw.1 hsw.2.1 hsw.2.2))) rfl ⟨_, _, rfl, World.ownsRow_nil _ _ _ _, World.ownsRow_nil _ _ _ _, ?_⟩
    exact ((hB2.setCell (by dsimp only; omega) _).setCell (by dsimp only; omega) _).setCell (by dsimp only; omega) _
  | false =>
    cases b2 with
    | true =>
      clear g3 g4
      go_enter Try.func15, Try.ntmps15
      go_wp2
      refine wp_scope_loop 0 (fun _ _ _ => False) rfl (fun _ _ _ h => h.elim) ?_
      intro H hH hp
      clear hH hp
      go_wp2_with fail
      refine (BI.out _ (by (repeat (first | with_reducible (first | exact Below.refl _ _ | assumption | exact Hid.out (by assumption) | refine Below.alloc ?_ ?_ _ | refine Below.setCell ?_ ?_ _ | refine below_drewN ?_ _ | refine Below.drew ?_ | refine below_via (by assumption) ?_ ?_) | (first | (with_reducible assumption) | omega | (simp only [szW] <;> omega) | (simp <;> omega)))))).mono ?_
      rintro e w1 ⟨v, u, rfl, o1, o2, hb1⟩
      have hz_w1 := hb1.size
      try simp only [World.size_alloc, World.size_setCell] at hz_w1
      have all_c : w1.cell? ⟨w.heap.size, 0, none⟩ = some (.int .i64 l) ∧ w1.cell? ⟨w.heap.size, 1, none⟩ = some (.slice ma n1 mc) ∧ w1.cell? ⟨w.heap.size, 2, none⟩ = some (.slice ica n2 icc) ∧ w1.cell? ⟨w.heap.size + 1, 0, none⟩ = some (.int .i64 seg) ∧ w1.cell? ⟨w.heap.size + 1, 1, none⟩ = some (.slice wa lw wc) ∧ w1.cell? ⟨w.heap.size + 1, 2, none⟩ = some (.slice ka lk kc) ∧ w1.cell? ⟨w.heap.size + 1, 3, none⟩ = some (.slice va lv vc) ∧ w1.cell? ⟨w.heap.size + 1, 4, none⟩ = some (.slice ca lc cc) ∧ w1.cell? ⟨w.heap.size + 1, 5, none⟩ = some (.int .u64 laid) ∧ w1.cell? ⟨w.heap.size + 1 + 1, 0, none⟩ = some (.int .i64 0) ∧ w1.cell? ⟨w.heap.size + 1 + 1, 1, none⟩ = some (.slice none 0 0) ∧ w1.cell? ⟨w.heap.size + 1 + 1, 2, none⟩ = some (.slice none 0 0) := by refine ⟨?_, ?_, ?_, ?_, ?_, ?_, ?_, ?_, ?_, ?_, ?_, ?_⟩ <;> (refine (hb1.cell ?_).trans ?_ <;> first | (first | (with_reducible assumption) | omega | (simp only [szW] <;> omega) | (simp <;> omega)) | (first | (with_reducible assumption) | ((try simp (disch := first | omega | (simp only [szW] <;> omega) | fail) only [ceW]) <;> first | (with_reducible assumption) | rfl)))
      have all_f : w1.frozen? ⟨w.heap.size + 1 + 1, 0, none⟩ = false ∧ w1.frozen? ⟨w.heap.size + 1 + 1, 1, none⟩ = false ∧ w1.frozen? ⟨w.heap.size + 1 + 1, 2, none⟩ = false := by refine ⟨?_, ?_, ?_⟩ <;> (refine (hb1.frozen ?_).trans ?_ <;> first | (first | (with_reducible assumption) | omega | (simp only [szW] <;> omega) | (simp <;> omega)) | (first | (with_reducible assumption) | ((try simp (disch := first | omega | (simp only [szW] <;> omega) | fail) only [ceW]) <;> first | (with_reducible assumption) | rfl)))
      have all_z : w.heap.size < w1.heap.size ∧ w.heap.size + 1 < w1.heap.size ∧ w.heap.size + 1 + 1 < w1.heap.size := by refine ⟨?_, ?_, ?_⟩ <;> (omega)
      obtain ⟨c_x0, c_x1, c_x2, c_s0, c_s1, c_s2, c_s3, c_s4, c_s5, c_r0, c_r1, c_r2⟩ := all_c
      try clear all_c
      obtain ⟨f_r0, f_r1, f_r2⟩ := all_f
      try clear all_f
      obtain ⟨z_x, z_s, z_r⟩ := all_z
      try clear all_z
      have hB1 : Below w.heap.size w w1 := by (repeat (first | with_reducible (first | exact Below.refl _ _ | assumption | exact Hid.out (by assumption) | refine Below.alloc ?_ ?_ _ | refine Below.setCell ?_ ?_ _ | refine below_drewN ?_ _ | refine Below.drew ?_ | refine below_via (by assumption) ?_ ?_) | (first | (with_reducible assumption) | omega | (simp only [szW] <;> omega) | (simp <;> omega))))
      obtain ⟨va1, vc1, rfl, -⟩ := owns_news o1
      obtain ⟨ua1, uc1, rfl, -⟩ := owns_news o2
      clear o1 o2 hb1
      go_wp2_with fail
      refine (CK.out _ (by (repeat (first | with_reducible (first | exact Below.refl _ _ | assumption | exact Hid.out (by assumption) | refine Below.alloc ?_ ?_ _ | refine Below.setCell ?_ ?_ _ | refine below_drewN ?_ _ | refine Below.drew ?_ | refine below_via (by assumption) ?_ ?_) | (first | (with_reducible assumption) | omega | (simp only [szW] <;> omega) | (simp <;> omega)))))).mono ?_
      rintro e w2 ⟨rfl, hb2⟩
      have hz_w2 := hb2.size
      try simp only [World.size_alloc, World.size_setCell] at hz_w2
      have all_c : w2.cell? ⟨w.heap.size, 0, none⟩ = some (.int .i64 l) ∧ w2.cell? ⟨w.heap.size, 1, none⟩ = some (.slice ma n1 mc) ∧ w2.cell? ⟨w.heap.size, 2, none⟩ = some (.slice ica n2 icc) ∧ w2.cell? ⟨w.heap.size + 1, 0, none⟩ = some (.int .i64 seg) ∧ w2.cell? ⟨w.heap.size + 1, 1, none⟩ = some (.slice wa lw wc) ∧ w2.cell? ⟨w.heap.size + 1, 2, none⟩ = some (.slice ka lk kc) ∧ w2.cell? ⟨w.heap.size + 1, 3, none⟩ = some (.slice va lv vc) ∧ w2.cell? ⟨w.heap.size + 1, 4, none⟩ = some (.slice ca lc cc) ∧ w2.cell? ⟨w.heap.size + 1, 5, none⟩ = some (.int .u64 laid) ∧ w2.cell? ⟨w.heap.size + 1 + 1, 0, none⟩ = some (.int .i64 0) ∧ w2.cell? ⟨w.heap.size + 1 + 1, 1, none⟩ = some (.slice none 0 0) ∧ w2.cell? ⟨w.heap.size + 1 + 1, 2, none⟩ = some (.slice none 0 0) := by refine ⟨?_, ?_, ?_, ?_, ?_, ?_, ?_, ?_, ?_, ?_, ?_, ?_⟩ <;> (refine (hb2.cell ?_).trans ?_ <;> first | (first | (with_reducible assumption) | omega | (simp only [szW] <;> omega) | (simp <;> omega)) | (first | (with_reducible assumption) | ((try simp (disch := first | omega | (simp only [szW] <;> omega) | fail) only [ceW]) <;> first | (with_reducible assumption) | rfl)))
      have all_f : w2.frozen? ⟨w.heap.size + 1 + 1, 0, none⟩ = false ∧ w2.frozen? ⟨w.heap.size + 1 + 1, 1, none⟩ = false ∧ w2.frozen? ⟨w.heap.size + 1 + 1, 2, none⟩ = false := by refine ⟨?_, ?_, ?_⟩ <;> (refine (hb2.frozen ?_).trans ?_ <;> first | (first | (with_reducible assumption) | omega | (simp only [szW] <;> omega) | (simp <;> omega)) | (first | (with_reducible assumption) | ((try simp (disch := first | omega | (simp only [szW] <;> omega) | fail) only [ceW]) <;> first | (with_reducible assumption) | rfl)))
      have all_z : w.heap.size < w2.heap.size ∧ w.heap.size + 1 < w2.heap.size ∧ w.heap.size + 1 + 1 < w2.heap.size := by refine ⟨?_, ?_, ?_⟩ <;> (omega)
      clear c_x0 c_x1 c_x2 c_s0 c_s1 c_s2 c_s3 c_s4 c_s5 c_r0 c_r1 c_r2 f_r0 f_r1 f_r2 z_x z_s z_r
      obtain ⟨c_x0, c_x1, c_x2, c_s0, c_s1, c_s2, c_s3, c_s4, c_s5, c_r0, c_r1, c_r2⟩ := all_c
      try clear all_c
      obtain ⟨f_r0, f_r1, f_r2⟩ := all_f
      try clear all_f
      obtain ⟨z_x, z_s, z_r⟩ := all_z
      try clear all_z
      have hB2 : Below w.heap.size w w2 := by (repeat (first | with_reducible (first | exact Below.refl _ _ | assumption | exact Hid.out (by assumption) | refine Below.alloc ?_ ?_ _ | refine Below.setCell ?_ ?_ _ | refine below_drewN ?_ _ | refine Below.drew ?_ | refine below_via (by assumption) ?_ ?_) | (first | (with_reducible assumption) | omega | (simp only [szW] <;> omega) | (simp <;> omega))))
      clear hb2
      go_wp2_with fail
      refine (LF.out _).mono ?_
      rintro e w' ⟨rfl, rfl⟩
      go_wp2
      simp only [Exit.jump]
      have hsw := three_set (w2 := w2) (b := w.heap.size + 1 + 1) (x := .int .i64 0) (y := .slice none 0 0) (z := .slice none 0 0) (by (first | (with_reducible assumption) | ((try simp (disch := first | omega | (simp only [szW] <;> omega) | fail) only [ceW]) <;> first | (with_reducible assumption) | rfl))) (by (first | (with_reducible assumption) | ((try simp (disch := first | omega | (simp only [szW] <;> omega) | fail) only [ceW]) <;> first | (with_reducible assumption) | rfl))) (by (first | (with_reducible assumption) | ((try simp (disch := first | omega | (simp only [szW] <;> omega) | fail) only [ceW]) <;> first | (with_reducible assumption) | rfl)))
      refine bodyPost_ret (results_ct rfl rfl (run_loadVar_many _ Try.underlying25 rfl (by kernel_rfl) (three_at hsw.1 hsw.2.1 hsw.2.2))) rfl ⟨_, _, rfl, World.ownsRow_nil _ _ _ _, World.ownsRow_nil _ _ _ _, ?_⟩
      exact ((hB2.setCell (by dsimp only; omega) _).setCell (by dsimp only; omega) _).setCell (by dsimp only; omega) _
    | false =>
      cases b3 with
      | true =>
        clear g4
        go_enter Try.func15, Try.ntmps15
        go_wp2
        refine wp_scope_loop 0 (fun _ _ _ => False) rfl (fun _ _ _ h => h.elim) ?_
        intro H hH hp
        clear hH hp
        go_wp2_with fail
        refine (BI.out _ (by (repeat (first | with_reducible (first | exact Below.refl _ _ | assumption | exact Hid.out (by assumption) | refine Below.alloc ?_ ?_ _ | refine Below.setCell ?_ ?_ _ | refine below_drewN ?_ _ | refine Below.drew ?_ | refine below_via (by assumption) ?_ ?_) | (first | (with_reducible assumption) | omega | (simp only [szW] <;> omega) | (simp <;> omega)))))).mono ?_
        rintro e w1 ⟨v, u, rfl, o1, o2, hb1⟩
        have hz_w1 := hb1.size
        try simp only [World.size_alloc, World.size_setCell] at hz_w1
        have all_c : w1.cell? ⟨w.heap.size, 0, none⟩ = some (.int .i64 l) ∧ w1.cell? ⟨w.heap.size, 1, none⟩ = some (.slice ma n1 mc) ∧ w1.cell? ⟨w.heap.size, 2, none⟩ = some (.slice ica n2 icc) ∧ w1.cell? ⟨w.heap.size + 1, 0, none⟩ = some (.int .i64 seg) ∧ w1.cell? ⟨w.heap.size + 1, 1, none⟩ = some (.slice wa lw wc) ∧ w1.cell? ⟨w.heap.size + 1, 2, none⟩ = some (.slice ka lk kc) ∧ w1.cell? ⟨w.heap.size + 1, 3, none⟩ = some (.slice va lv vc) ∧ w1.cell? ⟨w.heap.size + 1, 4, none⟩ = some (.slice ca lc cc) ∧ w1.cell? ⟨w.heap.size + 1, 5, none⟩ = some (.int .u64 laid) ∧ w1.cell? ⟨w.heap.size + 1 + 1, 0, none⟩ = some (.int .i64 0) ∧ w1.cell? ⟨w.heap.size + 1 + 1, 1, none⟩ = some (.slice none 0 0) ∧ w1.cell? ⟨w.heap.size + 1 + 1, 2, none⟩ = some (.slice none 0 0) := by refine ⟨?_, ?_, ?_, ?_, ?_, ?_, ?_, ?_, ?_, ?_, ?_, ?_⟩ <;> (refine (hb1.cell ?_).trans ?_ <;> first | (first | (with_reducible assumption) | omega | (simp only [szW] <;> omega) | (simp <;> omega)) | (first | (with_reducible assumption) | ((try simp (disch := first | omega | (simp only [szW] <;> omega) | fail) only [ceW]) <;> first | (with_reducible assumption) | rfl)))
        have all_f : w1.frozen? ⟨w.heap.size + 1 + 1, 0, none⟩ = false ∧ w1.frozen? ⟨w.heap.size + 1 + 1, 1, none⟩ = false ∧ w1.frozen? ⟨w.heap.size + 1 + 1, 2, none⟩ = false := by refine ⟨?_, ?_, ?_⟩ <;> (refine (hb1.frozen ?_).trans ?_ <;> first | (first | (with_reducible assumption) | omega | (simp only [szW] <;> omega) | (simp <;> omega)) | (first | (with_reducible assumption) | ((try simp (disch := first | omega | (simp only [szW] <;> omega) | fail) only [ceW]) <;> first | (with_reducible assumption) | rfl)))
        have all_z : w.heap.size < w1.heap.size ∧ w.heap.size + 1 < w1.heap.size ∧ w.heap.size + 1 + 1 < w1.heap.size := by refine ⟨?_, ?_, ?_⟩ <;> (omega)
        obtain ⟨c_x0, c_x1, c_x2, c_s0, c_s1, c_s2, c_s3, c_s4, c_s5, c_r0, c_r1, c_r2⟩ := all_c
        try clear all_c
        obtain ⟨f_r0, f_r1, f_r2⟩ := all_f
        try clear all_f
        obtain ⟨z_x, z_s, z_r⟩ := all_z
        try clear all_z
        have hB1 : Below w.heap.size w w1 := by (repeat (first | with_reducible (first | exact Below.refl _ _ | assumption | exact Hid.out (by assumption) | refine Below.alloc ?_ ?_ _ | refine Below.setCell ?_ ?_ _ | refine below_drewN ?_ _ | refine Below.drew ?_ | refine below_via (by assumption) ?_ ?_) | (first | (with_reducible assumption) | omega | (simp only [szW] <;> omega) | (simp <;> omega))))
        obtain ⟨va1, vc1, rfl, -⟩ := owns_news o1
        obtain ⟨ua1, uc1, rfl, -⟩ := owns_news o2
        clear o1 o2 hb1
        go_wp2_with fail
        refine (CK.out _ (by (repeat (first | with_reducible (first | exact Below.refl _ _ | assumption | exact Hid.out (by assumption) | refine Below.alloc ?_ ?_ _ | refine Below.setCell ?_ ?_ _ | refine below_drewN ?_ _ | refine Below.drew ?_ | refine below_via (by assumption) ?_ ?_) | (first | (with_reducible assumption) | omega | (simp only [szW] <;> omega) | (simp <;> omega)))))).mono ?_
        rintro e w2 ⟨rfl, hb2⟩
        have hz_w2 := hb2.size
        try simp only [World.size_alloc, World.size_setCell] at hz_w2
        have all_c : w2.cell? ⟨w.heap.size, 0, none⟩ = some (.int .i64 l) ∧ w2.cell? ⟨w.heap.size, 1, none⟩ = some (.slice ma n1 mc) ∧ w2.cell? ⟨w.heap.size, 2, none⟩ = some (.slice ica n2 icc) ∧ w2.cell? ⟨w.heap.size + 1, 0, none⟩ = some (.int .i64 seg) ∧ w2.cell? ⟨w.heap.size + 1, 1, none⟩ = some (.slice wa lw wc) ∧ w2.cell? ⟨w.heap.size + 1, 2, none⟩ = some (.slice ka lk kc) ∧ w2.cell? ⟨w.heap.size + 1, 3, none⟩ = some (.slice va lv vc) ∧ w2.cell? ⟨w.heap.size + 1, 4, none⟩ = some (.slice ca lc cc) ∧ w2.cell? ⟨w.heap.size + 1, 5, none⟩ = some (.int .u64 laid) ∧ w2.cell? ⟨w.heap.size + 1 + 1, 0, none⟩ = some (.int .i64 0) ∧ w2.cell? ⟨w.heap.size + 1 + 1, 1, none⟩ = some (.slice none 0 0) ∧ w2.cell? ⟨w.heap.size + 1 + 1, 2, none⟩ = some (.slice none 0 0) := by refine ⟨?_, ?_, ?_, ?_, ?_, ?_, ?_, ?_, ?_, ?_, ?_, ?_⟩ <;> (refine (hb2.cell ?_).trans ?_ <;> first | (first | (with_reducible assumption) | omega | (simp only [szW] <;> omega) | (simp <;> omega)) | (first | (with_reducible assumption) | ((try simp (disch := first | omega | (simp only [szW] <;> omega) | fail) only [ceW]) <;> first | (with_reducible assumption) | rfl)))
        have all_f : w2.frozen? ⟨w.heap.size + 1 + 1, 0, none⟩ = false ∧ w2.frozen? ⟨w.heap.size + 1 + 1, 1, none⟩ = false ∧ w2.frozen? ⟨w.heap.size + 1 + 1, 2, none⟩ = false := by refine ⟨?_, ?_, ?_⟩ <;> (refine (hb2.frozen ?_).trans ?_ <;> first | (first | (with_reducible assumption) | omega | (simp only [szW] <;> omega) | (simp <;> omega)) | (first | (with_reducible assumption) | ((try simp (disch := first | omega | (simp only [szW] <;> omega) | fail) only [ceW]) <;> first | (with_reducible assumption) | rfl)))
        have all_z : w.heap.size < w2.heap.size ∧ w.heap.size + 1 < w2.heap.size ∧ w.heap.size + 1 + 1 < w2.heap.size := by refine ⟨?_, ?_, ?_⟩ <;> (omega)
        clear c_x0 c_x1 c_x2 c_s0 c_s1 c_s2 c_s3 c_s4 c_s5 c_r0 c_r1 c_r2 f_r0 f_r1 f_r2 z_x z_s z_r
        obtain ⟨c_x0, c_x1, c_x2, c_s0, c_s1, c_s2, c_s3, c_s4, c_s5, c_r0, c_r1, c_r2⟩ := all_c
        try clear all_c
        obtain ⟨f_r0, f_r1, f_r2⟩ := all_f
        try clear all_f
        obtain ⟨z_x, z_s, z_r⟩ := all_z
        try clear all_z
        have hB2 : Below w.heap.size w w2 := by (repeat (first | with_reducible (first | exact Below.refl _ _ | assumption | exact Hid.out (by assumption) | refine Below.alloc ?_ ?_ _ | refine Below.setCell ?_ ?_ _ | refine below_drewN ?_ _ | refine Below.drew ?_ | refine below_via (by assumption) ?_ ?_) | (first | (with_reducible assumption) | omega | (simp only [szW] <;> omega) | (simp <;> omega))))
        clear hb2
        go_wp2_with fail
        refine (LF.out _).mono ?_
        rintro e w' ⟨rfl, rfl⟩
        go_wp2
        simp only [Exit.jump]
        have hsw := three_set (w2 := w2) (b := w.heap.size + 1 + 1) (x := .int .i64 0) (y := .slice none 0 0) (z := .slice none 0 0) (by (first | (with_reducible assumption) | ((try simp (disch := first | omega | (simp only [szW] <;> omega) | fail) only [ceW]) <;> first | (with_reducible assumption) | rfl))) (by (first | (with_reducible assumption) | ((try simp (disch := first | omega | (simp only [szW] <;> omega) | fail) only [ceW]) <;> first | (with_reducible assumption) | rfl))) (by (first | (with_reducible assumption) | ((try simp (disch := first | omega | (simp only [szW] <;> omega) | fail) only [ceW]) <;> first | (with_reducible assumption) | rfl)))
        refine bodyPost_ret (results_ct rfl rfl (run_loadVar_many _ Try.underlying25 rfl (by kernel_rfl) (three_at hsw.1 hsw.2.1 hsw.2.2))) rfl ⟨_, _, rfl, World.ownsRow_nil _ _ _ _, World.ownsRow_nil _ _ _ _, ?_⟩
        exact ((hB2.setCell (by dsimp only; omega) _).setCell (by dsimp only; omega) _).setCell (by dsimp only; omega) _
      | false =>
        have hb4 : b4 = true := by simpa using g5
        subst hb4
        go_enter Try.func15, Try.ntmps15
        go_wp2
        refine wp_scope_loop 0 (fun _ _ _ => False) rfl (fun _ _ _ h => h.elim) ?_
        intro H hH hp
        clear hH hp
        go_wp2_with fail
        refine (BI.out _ (by (repeat (first | with_reducible (first | exact Below.refl _ _ | assumption | exact Hid.out (by assumption) | refine Below.alloc ?_ ?_ _ | refine Below.setCell ?_ ?_ _ | refine below_drewN ?_ _ | refine Below.drew ?_ | refine below_via (by assumption) ?_ ?_) | (first | (with_reducible assumption) | omega | (simp only [szW] <;> omega) | (simp <;> omega)))))).mono ?_
        rintro e w1 ⟨v, u, rfl, o1, o2, hb1⟩
        have hz_w1 := hb1.size
        try simp only [World.size_alloc, World.size_setCell] at hz_w1
        have all_c : w1.cell? ⟨w.heap.size, 0, none⟩ = some (.int .i64 l) ∧ w1.cell? ⟨w.heap.size, 1, none⟩ = some (.slice ma n1 mc) ∧ w1.cell? ⟨w.heap.size, 2, none⟩ = some (.slice ica n2 icc) ∧ w1.cell? ⟨w.heap.size + 1, 0, none⟩ = some (.int .i64 seg) ∧ w1.cell? ⟨w.heap.size + 1, 1, none⟩ = some (.slice wa lw wc) ∧ w1.cell? ⟨w.heap.size + 1, 2, none⟩ = some (.slice ka lk kc) ∧ w1.cell? ⟨w.heap.size + 1, 3, none⟩ = some (.slice va lv vc) ∧ w1.cell? ⟨w.heap.size + 1, 4, none⟩ = some (.slice ca lc cc) ∧ w1.cell? ⟨w.heap.size + 1, 5, none⟩ = some (.int .u64 laid) ∧ w1.cell? ⟨w.heap.size + 1 + 1, 0, none⟩ = some (.int .i64 0) ∧ w1.cell? ⟨w.heap.size + 1 + 1, 1, none⟩ = some (.slice none 0 0) ∧ w1.cell? ⟨w.heap.size + 1 + 1, 2, none⟩ = some (.slice none 0 0) := by refine ⟨?_, ?_, ?_, ?_, ?_, ?_, ?_, ?_, ?_, ?_, ?_, ?_⟩ <;> (refine (hb1.cell ?_).trans ?_ <;> first | (first | (with_reducible assumption) | omega | (simp only [szW] <;> omega) | (simp <;> omega)) | (first | (with_reducible assumption) | ((try simp (disch := first | omega | (simp only [szW] <;> omega) | fail) only [ceW]) <;> first | (with_reducible assumption) | rfl)))
        have all_f : w1.frozen? ⟨w.heap.size + 1 + 1, 0, none⟩ = false ∧ w1.frozen? ⟨w.heap.size + 1 + 1, 1, none⟩ = false ∧ w1.frozen? ⟨w.heap.size + 1 + 1, 2, none⟩ = false := by refine ⟨?_, ?_, ?_⟩ <;> (refine (hb1.frozen ?_).trans ?_ <;> first | (first | (with_reducible assumption) | omega | (simp only [szW] <;> omega) | (simp <;> omega)) | (first | (with_reducible assumption) | ((try simp (disch := first | omega | (simp only [szW] <;> omega) | fail) only [ceW]) <;> first | (with_reducible assumption) | rfl)))
        have all_z : w.heap.size < w1.heap.size ∧ w.heap.size + 1 < w1.heap.size ∧ w.heap.size + 1 + 1 < w1.heap.size := by refine ⟨?_, ?_, ?_⟩ <;> (omega)
        obtain ⟨c_x0, c_x1, c_x2, c_s0, c_s1, c_s2, c_s3, c_s4, c_s5, c_r0, c_r1, c_r2⟩ := all_c
        try clear all_c
        obtain ⟨f_r0, f_r1, f_r2⟩ := all_f
        try clear all_f
        obtain ⟨z_x, z_s, z_r⟩ := all_z
        try clear all_z
        have hB1 : Below w.heap.size w w1 := by (repeat (first | with_reducible (first | exact Below.refl _ _ | assumption | exact Hid.out (by assumption) | refine Below.alloc ?_ ?_ _ | refine Below.setCell ?_ ?_ _ | refine below_drewN ?_ _ | refine Below.drew ?_ | refine below_via (by assumption) ?_ ?_) | (first | (with_reducible assumption) | omega | (simp only [szW] <;> omega) | (simp <;> omega))))
        obtain ⟨va1, vc1, rfl, -⟩ := owns_news o1
        obtain ⟨ua1, uc1, rfl, -⟩ := owns_news o2
        clear o1 o2 hb1
        go_wp2_with fail
        refine (CK.out _ (by (repeat (first | with_reducible (first | exact Below.refl _ _ | assumption | exact Hid.out (by assumption) | refine Below.alloc ?_ ?_ _ | refine Below.setCell ?_ ?_ _ | refine below_drewN ?_ _ | refine Below.drew ?_ | refine below_via (by assumption) ?_ ?_) | (first | (with_reducible assumption) | omega | (simp only [szW] <;> omega) | (simp <;> omega)))))).mono ?_
        rintro e w2 ⟨rfl, hb2⟩
        have hz_w2 := hb2.size
        try simp only [World.size_alloc, World.size_setCell] at hz_w2
        have all_c : w2.cell? ⟨w.heap.size, 0, none⟩ = some (.int .i64 l) ∧ w2.cell? ⟨w.heap.size, 1, none⟩ = some (.slice ma n1 mc) ∧ w2.cell? ⟨w.heap.size, 2, none⟩ = some (.slice ica n2 icc) ∧ w2.cell? ⟨w.heap.size + 1, 0, none⟩ = some (.int .i64 seg) ∧ w2.cell? ⟨w.heap.size + 1, 1, none⟩ = some (.slice wa lw wc) ∧ w2.cell? ⟨w.heap.size + 1, 2, none⟩ = some (.slice ka lk kc) ∧ w2.cell? ⟨w.heap.size + 1, 3, none⟩ = some (.slice va lv vc) ∧ w2.cell? ⟨w.heap.size + 1, 4, none⟩ = some (.slice ca lc cc) ∧ w2.cell? ⟨w.heap.size + 1, 5, none⟩ = some (.int .u64 laid) ∧ w2.cell? ⟨w.heap.size + 1 + 1, 0, none⟩ = some (.int .i64 0) ∧ w2.cell? ⟨w.heap.size + 1 + 1, 1, none⟩ = some (.slice none 0 0) ∧ w2.cell? ⟨w.heap.size + 1 + 1, 2, none⟩ = some (.slice none 0 0) := by refine ⟨?_, ?_, ?_, ?_, ?_, ?_, ?_, ?_, ?_, ?_, ?_, ?_⟩ <;> (refine (hb2.cell ?_).trans ?_ <;> first | (first | (with_reducible assumption) | omega | (simp only [szW] <;> omega) | (simp <;> omega)) | (first | (with_reducible assumption) | ((try simp (disch := first | omega | (simp only [szW] <;> omega) | fail) only [ceW]) <;> first | (with_reducible assumption) | rfl)))
        have all_f : w2.frozen? ⟨w.heap.size + 1 + 1, 0, none⟩ = false ∧ w2.frozen? ⟨w.heap.size + 1 + 1, 1, none⟩ = false ∧ w2.frozen? ⟨w.heap.size + 1 + 1, 2, none⟩ = false := by refine ⟨?_, ?_, ?_⟩ <;> (refine (hb2.frozen ?_).trans ?_ <;> first | (first | (with_reducible assumption) | omega | (simp only [szW] <;> omega) | (simp <;> omega)) | (first | (with_reducible assumption) | ((try simp (disch := first | omega | (simp only [szW] <;> omega) | fail) only [ceW]) <;> first | (with_reducible assumption) | rfl)))
        have all_z : w.heap.size < w2.heap.size ∧ w.heap.size + 1 < w2.heap.size ∧ w.heap.size + 1 + 1 < w2.heap.size := by refine ⟨?_, ?_, ?_⟩ <;> (omega)
        clear c_x0 c_x1 c_x2 c_s0 c_s1 c_s2 c_s3 c_s4 c_s5 c_r0 c_r1 c_r2 f_r0 f_r1 f_r2 z_x z_s z_r
        obtain ⟨c_x0, c_x1, c_x2, c_s0, c_s1, c_s2, c_s3, c_s4, c_s5, c_r0, c_r1, c_r2⟩ := all_c
        try clear all_c
        obtain ⟨f_r0, f_r1, f_r2⟩ := all_f
        try clear all_f
        obtain ⟨z_x, z_s, z_r⟩ := all_z
        try clear all_z
        have hB2 : Below w.heap.size w w2 := by (repeat (first | with_reducible (first | exact Below.refl _ _ | assumption | exact Hid.out (by assumption) | refine Below.alloc ?_ ?_ _ | refine Below.setCell ?_ ?_ _ | refine below_drewN ?_ _ | refine Below.drew ?_ | refine below_via (by assumption) ?_ ?_) | (first | (with_reducible assumption) | omega | (simp only [szW] <;> omega) | (simp <;> omega))))
        clear hb2
        go_wp2_with fail
        refine (LF.out _).mono ?_
        rintro e w' ⟨rfl, rfl⟩
        go_wp2
        simp only [Exit.jump]
        have hsw := three_set (w2 := w2) (b := w.heap.size + 1 + 1) (x := .int .i64 0) (y := .slice none 0 0) (z := .slice none 0 0) (by (first | (with_reducible assumption) | ((try simp (disch := first | omega | (simp only [szW] <;> omega) | fail) only [ceW]) <;> first | (with_reducible assumption) | rfl))) (by (first | (with_reducible assumption) | ((try simp (disch := first | omega | (simp only [szW] <;> omega) | fail) only [ceW]) <;> first | (with_reducible assumption) | rfl))) (by (first | (with_reducible assumption) | ((try simp (disch := first | omega | (simp only [szW] <;> omega) | fail) only [ceW]) <;> first | (with_reducible assumption) | rfl)))
        refine bodyPost_ret (results_ct rfl rfl (run_loadVar_many _ Try.underlying25 rfl (by kernel_rfl) (three_at hsw.1 hsw.2.1 hsw.2.2))) rfl ⟨_, _, rfl, World.ownsRow_nil _ _ _ _, World.ownsRow_nil _ _ _ _, ?_⟩
        exact ((hB2.setCell (by dsimp only; omega) _).setCell (by dsimp only; omega) _).setCell (by dsimp only; omega) _

/-- the error -/
def wndE (l : Int) (ms cs : List Int) (c : SlC) (lo hi : Int) : Int :=
  if bldE c = 0 then (if ixMay l ms cs = true then (if (2 : Int) ^ (l.toNat - 1) = c.cs.length ∧ 0 ≤ lo ∧ lo ≤ hi ∧ hi ≤ c.cs.length then 0 else 2) else 8) else bldE c
def wndT (l : Int) (ms cs : List Int) (c : SlC) (lo hi : Int) : Nat → Int × Int :=
  gH (leafT c) (fun n => (tlF l.toNat ms n, tlF l.toNat cs n)) (2 ^ (l.toNat - 1)) lo.toNat hi.toNat (l.toNat - 1)
def wndL (l : Int) (ms cs : List Int) (c : SlC) (lo hi : Int) : Int := if wndE l ms cs c lo hi = 0 then l else 0
def wndM (l : Int) (ms cs : List Int) (c : SlC) (lo hi : Int) : List Int := if wndE l ms cs c lo hi = 0 then (lay l.toNat 1).map (fun n => (wndT l ms cs c lo hi n).1) else []
def wndC (l : Int) (ms cs : List Int) (c : SlC) (lo hi : Int) : List Int := if wndE l ms cs c lo hi = 0 then (lay l.toNat 1).map (fun n => (wndT l ms cs c lo hi n).2) else []
theorem Window_ok (l : Int) (ma ica : Option Addr) (mc icc : Nat) (ms cs : List Int) (c : SlC) (a : SlA) (lo hi : Int) (hl : c.ws.length ≤ 1000000000000) (hl2 : c.ks.length ≤ 1000000000000) (w : World) (hin : SlIn w c a) (hm : IsRow .i64 w ma ms) (hc : IsRow .i64 w ica cs) (hlm : ms.length ≤ 100000) (hlc : cs.length ≤ 100000) :
    Calls Try.prog 15 #[ixV l ma ms.length mc ica cs.length icc, slV c a, .int .i64 lo, .int .i64 hi] w (FreshIx2 w (wndL l ms cs c lo hi) (wndM l ms cs c lo hi) (wndC l ms cs c lo hi) (.int .i64 (wndE l ms cs c lo hi))) := by
  have BI := Lib.hid (fun W (hb : Below w.heap.size w W) => BuildIx_ok c a hl hl2 W (hin.below hb))
  have CK := Lib.hid (fun W (hb : Below w.heap.size w W) => Check_ix l ma ica mc icc ms cs W (hm.below hb) (hc.below hb))
  by_cases h0 : bldE c = 0
  · rw [h0] at BI
    by_cases hmay : ixMay l ms cs = true
    · rw [show ixE l ms cs = 0 from if_pos hmay] at CK
      obtain ⟨L, D, N, F, hL, h1, h2, hN, hD, hF, hNF, hFb, hF0, hLn, hLD, hlm', hlc', hg⟩ := ixMay_parts hmay
      have hFI : (2 : Int) ^ (l.toNat - 1) = (F : Int) := by rw [hLD, ← hF]; push_cast; rfl
      have LF := Lib.hid (fun W => Leaf_any l 0 W)
      have hlE : lfE l 0 = 0 := if_pos ⟨by omega, by omega, by rw [hFI]; omega⟩
      have hlR : lfR l 0 = (F : Int) := by rw [lfR, if_pos hlE, hFI]; omega
      rw [hlE, hlR] at LF
      by_cases hr : (2 : Int) ^ (l.toNat - 1) = c.cs.length ∧ 0 ≤ lo ∧ lo ≤ hi ∧ hi ≤ c.cs.length
      · have hE : wndE l ms cs c lo hi = 0 := by rw [wndE, if_pos h0, if_pos hmay, if_pos hr]
        obtain ⟨hr1, hr2, hr3, hr4⟩ := hr
        rw [hFI] at hr1
        have hcF : c.cs.length = F := by omega
        have hm8 := seekE_may (bldE_seek h0).1
        obtain ⟨S, D', M, hS, hS2, hS4, hS64, hcm, hMD, hDM, hD13, hSM, hks, hvs, hws, hwl⟩ := bld_facts hm8 (by omega)
        have hMF : M = F := by omega
        obtain ⟨lo', rfl⟩ : ∃ n : Nat, lo = n := ⟨lo.toNat, by omega⟩
        obtain ⟨hi', rfl⟩ : ∃ n : Nat, hi = n := ⟨hi.toNat, by omega⟩
        have TW := Lib.hid (fun W (hb : Below w.heap.size w W) => Twin_ix l ma ica mc icc ms cs W (hm.below hb) (hc.below hb) hlm hlc)
        have e1 := lay_whole h1 (ms := ms) (by omega)
        have e2 := lay_whole h1 (ms := cs) (by omega)
        have PR := Lib.hid (fun s (hs : s < F) W (hb : Below w.heap.size w W) => (show Calls Try.prog 26 #[slV c a, .int .i64 ((s * S : Nat) : Int), .int .i64 (((s + 1) * S : Nat) : Int)] W (FreshPr2 W (prs c (s * S) ((s + 1) * S)) (.int .i64 0)) by
          have := Pairs_ok c a hl hl2 ((s * S : Nat) : Int) (((s + 1) * S : Nat) : Int) W (hin.below hb)
          obtain ⟨p1, p2⟩ := prsR_seg hm8 hS hks (k := s) (by omega)
          rw [p1, p2] at this
          exact this))
        have PL : Hid (∀ s, (prs c (s * S) ((s + 1) * S)).length ≤ 64) := Lib.hid fun s => by
          have := prs_le (c := c) (a := s * S) (b := (s + 1) * S)
          have e : (s + 1) * S = s * S + S := by rw [Nat.add_mul, Nat.one_mul]
          omega
        have hlf : leafT c = fun s => tellT (prs c (s * S) ((s + 1) * S)) := by funext s; rw [leafT_tell, hS2]
        rw [wndL, wndM, wndC, if_pos hE, if_pos hE, if_pos hE, hE]
        unfold wndT
        rw [hLD, hLn, hF, Int.toNat_natCast, Int.toNat_natCast, hlf]
        rw [hlm', hlc'] at CK TW ⊢
        rw [hL] at CK LF TW ⊢
        have hTW : Hid (∀ W, Below w.heap.size w W → Calls Try.prog 40 #[ixV L ma N mc ica N icc] W (FreshIx W L ((lay L 1).map (tlF L ms)) ((lay L 1).map (tlF L cs)))) := Lib.hid fun W hb => by
          have := TW.out W hb
          rw [e1, e2] at this
          rw [← e1, ← e2] at this ⊢
          exact this
        have hSF : S * F ≤ 65536 := by rw [← hMF]; exact hSM
        clear e1 e2 TW hin hm hc
        obtain ⟨seg, ws, ks, vs, cs', laid⟩ := c
        obtain ⟨wa, ka, va, ca, wc, kc, vc, cc⟩ := a
        dsimp only [slV] at *
        subst hS
        rw [hcF] at BI PR ⊢
        exact Window_core S D L N F lo' hi' ma ica wa ka va ca mc icc wc kc vc cc ws.length ks.length vs.length laid _ _ _ (tlF L ms) (tlF L cs) (fun s => prs ⟨S, ws, ks, vs, cs', laid⟩ (s * S) ((s + 1) * S)) w hS64 (by omega) (by omega) hF (by omega) hNF hFb hF0 hSF (by omega) (by omega) BI CK LF hTW PR PL
      · have hE : wndE l ms cs c lo hi = 2 := by rw [wndE, if_pos h0, if_pos hmay, if_neg hr]
        rw [wndL, wndM, wndC, hE, if_neg (by decide), if_neg (by decide), if_neg (by decide)]
        rw [hFI] at hr
        exact Wnd_no3 _ _ _ _ _ _ _ _ _ _ _ _ _ _ _ _ _ _ _ _ _ lo hi _ _ _ F (by omega) w BI CK LF
    · have hx : ixE l ms cs ≠ 0 := by rw [show ixE l ms cs = 8 from if_neg hmay]; decide
      have hE : wndE l ms cs c lo hi = 8 := by rw [wndE, if_pos h0, if_neg hmay]
      rw [wndL, wndM, wndC, hE, if_neg (by decide), if_neg (by decide), if_neg (by decide)]
      exact Wnd_no2 _ _ _ _ _ _ _ _ _ _ _ _ _ _ _ _ _ _ _ _ _ lo hi _ _ _ _ hx w BI CK
  · have hE : wndE l ms cs c lo hi = bldE c := by rw [wndE, if_neg h0]
    rw [wndL, wndM, wndC, hE, if_neg h0, if_neg h0, if_neg h0]
    exact Wnd_no1 _ _ _ _ _ _ _ _ _ _ _ _ _ _ _ _ _ _ _ _ _ lo hi _ _ _ _ h0 w BI
end

section
open Go.RowKit

theorem lay_map_eq {L : Nat} (hL : 1 ≤ L) {f g : Nat → Int} (h : ∀ n, 1 ≤ n → n < 2 ^ L → f n = g n) : (lay L 1).map f = (lay L 1).map g := by
  apply List.map_congr_left
  intro n hn
  have := lay_mem L L 1 (Nat.le_refl _) hL n hn
  have e : (1 + 1) * 2 ^ (L - 1) = 2 ^ L := by rw [show L = L - 1 + 1 by omega, Nat.pow_succ]; simp; omega
  exact h n this.1 (by omega)
end
end Go.Proofs.Ytbmibaafkgleeaa

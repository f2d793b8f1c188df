/- The walk of mend.Fit. -/
import Derived.Test.YtbmibaafkgleeaaWndF
import Derived.Test.YtbmibaafkgleeaaTurnA
namespace Go.Proofs.Ytbmibaafkgleeaa
open Go.RowKit Go.Shelf
set_option linter.unusedVariables false
set_option linter.unusedSimpArgs false

set_option maxRecDepth 100000 in
set_option maxHeartbeats 2000000 in
theorem Fit_no (l seg seg' laid laid' : Int) (ma ica wa ka va ca wa' ka' va' ca' : Option Addr) (mc icc n1 n2 wc kc vc cc wc' kc' vc' cc' lw lk lv lc lw' lk' lv' lc' : Nat) (bL : Int) (bm bc : List Int) (y : Int) (hy : y ≠ 0) (w : World)
    (BI : Hid (∀ W, Below w.heap.size w W → Calls Try.prog 23 #[.agg #[.int .i64 seg', .slice wa' lw' wc', .slice ka' lk' kc', .slice va' lv' vc', .slice ca' lc' cc', .int .u64 laid']] W (FreshIx2 W bL bm bc (.int .i64 y)))) :
    Calls Try.prog 20 #[ixV l ma n1 mc ica n2 icc, .agg #[.int .i64 seg, .slice wa lw wc, .slice ka lk kc, .slice va lv vc, .slice ca lc cc, .int .u64 laid], .agg #[.int .i64 seg', .slice wa' lw' wc', .slice ka' lk' kc', .slice va' lv' vc', .slice ca' lc' cc', .int .u64 laid']] w (FreshIx2 w 0 [] [] (.int .i64 y)) := by
  have g1 : (y != 0) = true := by simpa using hy
  clear hy
  go_enter Try.func20, Try.ntmps20
  go_wp2_with fail
  refine (BI.out _ (by (repeat (first | (with_reducible exact Below.refl _ _) | (with_reducible assumption) | (with_reducible exact Hid.out (by with_reducible assumption)) | (with_reducible refine Below.alloc ?_ ?_ _) | (with_reducible refine Below.setCell ?_ ?_ _) | (with_reducible refine below_drewN ?_ _) | (with_reducible refine Below.drew ?_) | (with_reducible refine below_via (by with_reducible assumption) ?_ ?_) | (first | (with_reducible assumption) | omega | (simp only [World.size_alloc, World.size_setCell, World.size_drew, World.heap_drewN] <;> omega) | (simp <;> omega)))))).mono ?_
  rintro e w1 ⟨v, u, rfl, o1, o2, hb1⟩
  have hz_w1 := hb1.size
  try simp only [World.size_alloc, World.size_setCell] at hz_w1
  have all_c : w1.cell? ⟨w.heap.size, 0, none⟩ = some (.int .i64 l) ∧ w1.cell? ⟨w.heap.size, 1, none⟩ = some (.slice ma n1 mc) ∧ w1.cell? ⟨w.heap.size, 2, none⟩ = some (.slice ica n2 icc) ∧ w1.cell? ⟨w.heap.size + 1, 0, none⟩ = some (.int .i64 seg) ∧ w1.cell? ⟨w.heap.size + 1, 1, none⟩ = some (.slice wa lw wc) ∧ w1.cell? ⟨w.heap.size + 1, 2, none⟩ = some (.slice ka lk kc) ∧ w1.cell? ⟨w.heap.size + 1, 3, none⟩ = some (.slice va lv vc) ∧ w1.cell? ⟨w.heap.size + 1, 4, none⟩ = some (.slice ca lc cc) ∧ w1.cell? ⟨w.heap.size + 1, 5, none⟩ = some (.int .u64 laid) ∧ w1.cell? ⟨w.heap.size + 1 + 1, 0, none⟩ = some (.int .i64 seg') ∧ w1.cell? ⟨w.heap.size + 1 + 1, 1, none⟩ = some (.slice wa' lw' wc') ∧ w1.cell? ⟨w.heap.size + 1 + 1, 2, none⟩ = some (.slice ka' lk' kc') ∧ w1.cell? ⟨w.heap.size + 1 + 1, 3, none⟩ = some (.slice va' lv' vc') ∧ w1.cell? ⟨w.heap.size + 1 + 1, 4, none⟩ = some (.slice ca' lc' cc') ∧ w1.cell? ⟨w.heap.size + 1 + 1, 5, none⟩ = some (.int .u64 laid') ∧ w1.cell? ⟨w.heap.size + 1 + 1 + 1, 0, none⟩ = some (.int .i64 0) ∧ w1.cell? ⟨w.heap.size + 1 + 1 + 1, 1, none⟩ = some (.slice none 0 0) ∧ w1.cell? ⟨w.heap.size + 1 + 1 + 1, 2, none⟩ = some (.slice none 0 0) := by refine ⟨?_, ?_, ?_, ?_, ?_, ?_, ?_, ?_, ?_, ?_, ?_, ?_, ?_, ?_, ?_, ?_, ?_, ?_⟩ <;> (refine (hb1.cell ?_).trans ?_ <;> first | (first | (with_reducible assumption) | omega | (simp only [World.size_alloc, World.size_setCell, World.size_drew, World.heap_drewN] <;> omega) | (simp <;> omega)) | (first | (with_reducible assumption) | ((try simp (disch := first | omega | (simp only [World.size_alloc, World.size_setCell, World.size_drew, World.heap_drewN] <;> omega) | fail) only [World.cell?_alloc_past, World.cell?_alloc_at, World.frozen?_alloc_past, World.frozen?_alloc_at, World.frozen?_setCell, World.cell?_drew, World.frozen?_drew]) <;> first | (with_reducible assumption) | rfl)))
  have all_f : w1.frozen? ⟨w.heap.size + 1 + 1 + 1, 0, none⟩ = false ∧ w1.frozen? ⟨w.heap.size + 1 + 1 + 1, 1, none⟩ = false ∧ w1.frozen? ⟨w.heap.size + 1 + 1 + 1, 2, none⟩ = false := by refine ⟨?_, ?_, ?_⟩ <;> (refine (hb1.frozen ?_).trans ?_ <;> first | (first | (with_reducible assumption) | omega | (simp only [World.size_alloc, World.size_setCell, World.size_drew, World.heap_drewN] <;> omega) | (simp <;> omega)) | (first | (with_reducible assumption) | ((try simp (disch := first | omega | (simp only [World.size_alloc, World.size_setCell, World.size_drew, World.heap_drewN] <;> omega) | fail) only [World.cell?_alloc_past, World.cell?_alloc_at, World.frozen?_alloc_past, World.frozen?_alloc_at, World.frozen?_setCell, World.cell?_drew, World.frozen?_drew]) <;> first | (with_reducible assumption) | rfl)))
  have all_z : w.heap.size < w1.heap.size ∧ w.heap.size + 1 < w1.heap.size ∧ w.heap.size + 1 + 1 < w1.heap.size ∧ w.heap.size + 1 + 1 + 1 < w1.heap.size := by refine ⟨?_, ?_, ?_, ?_⟩ <;> (omega)
  obtain ⟨c_x0, c_x1, c_x2, c_s0, c_s1, c_s2, c_s3, c_s4, c_s5, c_t0, c_t1, c_t2, c_t3, c_t4, c_t5, c_r0, c_r1, c_r2⟩ := all_c
  try clear all_c
  obtain ⟨f_r0, f_r1, f_r2⟩ := all_f
  try clear all_f
  obtain ⟨z_x, z_s, z_t, z_r⟩ := all_z
  try clear all_z
  have hB1 : Below w.heap.size w w1 := by (repeat (first | (with_reducible exact Below.refl _ _) | (with_reducible assumption) | (with_reducible exact Hid.out (by with_reducible assumption)) | (with_reducible refine Below.alloc ?_ ?_ _) | (with_reducible refine Below.setCell ?_ ?_ _) | (with_reducible refine below_drewN ?_ _) | (with_reducible refine Below.drew ?_) | (with_reducible refine below_via (by with_reducible assumption) ?_ ?_) | (first | (with_reducible assumption) | omega | (simp only [World.size_alloc, World.size_setCell, World.size_drew, World.heap_drewN] <;> omega) | (simp <;> omega))))
  have hz1 := hb1.size
  simp only [World.size_alloc] at hz1
  obtain ⟨va1, vc1, rfl, -⟩ := owns_news o1
  obtain ⟨ua1, uc1, rfl, -⟩ := owns_news o2
  clear o1 o2 hb1
  go_wp2
  have hsw := three_set (w2 := w1) (b := w.heap.size + 1 + 1 + 1) (x := .int .i64 0) (y := .slice none 0 0) (z := .slice none 0 0) c_r0 c_r1 c_r2
  have hs7 : ((((w1.setCell ⟨w.heap.size + 1 + 1 + 1, 0, none⟩ (.int .i64 0)).setCell ⟨w.heap.size + 1 + 1 + 1, 1, none⟩ (.slice none 0 0)).setCell ⟨w.heap.size + 1 + 1 + 1, 2, none⟩ (.slice none 0 0))).heap.size = w1.heap.size := by simp only [World.size_setCell]
  have hB7 : Below w.heap.size w ((((w1.setCell ⟨w.heap.size + 1 + 1 + 1, 0, none⟩ (.int .i64 0)).setCell ⟨w.heap.size + 1 + 1 + 1, 1, none⟩ (.slice none 0 0)).setCell ⟨w.heap.size + 1 + 1 + 1, 2, none⟩ (.slice none 0 0))) := ((hB1.setCell (by dsimp only; omega) _).setCell (by dsimp only; omega) _).setCell (by dsimp only; omega) _
  generalize ((((w1.setCell ⟨w.heap.size + 1 + 1 + 1, 0, none⟩ (.int .i64 0)).setCell ⟨w.heap.size + 1 + 1 + 1, 1, none⟩ (.slice none 0 0)).setCell ⟨w.heap.size + 1 + 1 + 1, 2, none⟩ (.slice none 0 0))) = w7 at *
  have hal : Below w7.heap.size w7 (w7.alloc (.cells #[.int .i64 bL, .slice va1 bm.length vc1, .slice ua1 bc.length uc1] 25)) := (Below.refl _ w7).alloc (Nat.le_refl _) _
  refine bodyPost_ret (results_ct rfl rfl (run_loadVar_many _ Try.underlying25 rfl (by kernel_rfl) (three_at ((hal.cell (by dsimp only; omega)).trans hsw.1) ((hal.cell (by dsimp only; omega)).trans hsw.2.1) ((hal.cell (by dsimp only; omega)).trans hsw.2.2)))) rfl ⟨_, _, rfl, World.ownsRow_nil _ _ _ _, World.ownsRow_nil _ _ _ _, ?_⟩
  exact hB7.alloc (by omega) _

set_option maxRecDepth 100000 in
set_option maxHeartbeats 2000000 in
theorem Fit_whole (l seg seg' laid laid' : Int) (ma ica wa ka va ca wa' ka' va' ca' : Option Addr) (mc icc n1 n2 wc kc vc cc wc' kc' vc' cc' lw lk lv lc lw' lk' lv' lc' : Nat) (bL : Int) (bm bc : List Int) (p q e1 f1 : Int) (i1 : Bool) (h : e1 ≠ 0 ∨ (e1 = 0 ∧ f1 ≠ 0) ∨ (e1 = 0 ∧ f1 = 0 ∧ i1 = false)) (w : World)
    (BI : Hid (∀ W, Below w.heap.size w W → Calls Try.prog 23 #[.agg #[.int .i64 seg', .slice wa' lw' wc', .slice ka' lk' kc', .slice va' lv' vc', .slice ca' lc' cc', .int .u64 laid']] W (FreshIx2 W bL bm bc (.int .i64 0))))
    (TU : Hid (∀ W, Below w.heap.size w W → Calls Try.prog 13 #[.agg #[.int .i64 seg, .slice wa lw wc, .slice ka lk kc, .slice va lv vc, .slice ca lc cc, .int .u64 laid], .agg #[.int .i64 seg', .slice wa' lw' wc', .slice ka' lk' kc', .slice va' lv' vc', .slice ca' lc' cc', .int .u64 laid']] W (AnsB W (.tuple #[.int .i64 p, .int .i64 q, .int .i64 e1]))))
    (OF : Hid (∀ W, Below w.heap.size w W → Calls Try.prog 32 #[ixV l ma n1 mc ica n2 icc, .agg #[.int .i64 seg, .slice wa lw wc, .slice ka lk kc, .slice va lv vc, .slice ca lc cc, .int .u64 laid]] W (AnsB W (.tuple #[.bool i1, .int .i64 f1])))) :
    Calls Try.prog 20 #[ixV l ma n1 mc ica n2 icc, .agg #[.int .i64 seg, .slice wa lw wc, .slice ka lk kc, .slice va lv vc, .slice ca lc cc, .int .u64 laid], .agg #[.int .i64 seg', .slice wa' lw' wc', .slice ka' lk' kc', .slice va' lv' vc', .slice ca' lc' cc', .int .u64 laid']] w (FreshIx2 w bL bm bc (.int .i64 0)) := by
  rcases h with h | ⟨rfl, h⟩ | ⟨rfl, rfl, rfl⟩
  · have g1 : (e1 != 0) = true := by simpa using h
    clear h
    go_enter Try.func20, Try.ntmps20
    go_wp2_with fail
    refine (BI.out _ (by (repeat (first | (with_reducible exact Below.refl _ _) | (with_reducible assumption) | (with_reducible exact Hid.out (by with_reducible assumption)) | (with_reducible refine Below.alloc ?_ ?_ _) | (with_reducible refine Below.setCell ?_ ?_ _) | (with_reducible refine below_drewN ?_ _) | (with_reducible refine Below.drew ?_) | (with_reducible refine below_via (by with_reducible assumption) ?_ ?_) | (first | (with_reducible assumption) | omega | (simp only [World.size_alloc, World.size_setCell, World.size_drew, World.heap_drewN] <;> omega) | (simp <;> omega)))))).mono ?_
    rintro e w1 ⟨v, u, rfl, o1, o2, hb1⟩
    have hz_w1 := hb1.size
    try simp only [World.size_alloc, World.size_setCell] at hz_w1
    have all_c : w1.cell? ⟨w.heap.size, 0, none⟩ = some (.int .i64 l) ∧ w1.cell? ⟨w.heap.size, 1, none⟩ = some (.slice ma n1 mc) ∧ w1.cell? ⟨w.heap.size, 2, none⟩ = some (.slice ica n2 icc) ∧ w1.cell? ⟨w.heap.size + 1, 0, none⟩ = some (.int .i64 seg) ∧ w1.cell? ⟨w.heap.size + 1, 1, none⟩ = some (.slice wa lw wc) ∧ w1.cell? ⟨w.heap.size + 1, 2, none⟩ = some (.slice ka lk kc) ∧ w1.cell? ⟨w.heap.size + 1, 3, none⟩ = some (.slice va lv vc) ∧ w1.cell? ⟨w.heap.size + 1, 4, none⟩ = some (.slice ca lc cc) ∧ w1.cell? ⟨w.heap.size + 1, 5, none⟩ = some (.int .u64 laid) ∧ w1.cell? ⟨w.heap.size + 1 + 1, 0, none⟩ = some (.int .i64 seg') ∧ w1.cell? ⟨w.heap.size + 1 + 1, 1, none⟩ = some (.slice wa' lw' wc') ∧ w1.cell? ⟨w.heap.size + 1 + 1, 2, none⟩ = some (.slice ka' lk' kc') ∧ w1.cell? ⟨w.heap.size + 1 + 1, 3, none⟩ = some (.slice va' lv' vc') ∧ w1.cell? ⟨w.heap.size + 1 + 1, 4, none⟩ = some (.slice ca' lc' cc') ∧ w1.cell? ⟨w.heap.size + 1 + 1, 5, none⟩ = some (.int .u64 laid') ∧ w1.cell? ⟨w.heap.size + 1 + 1 + 1, 0, none⟩ = some (.int .i64 0) ∧ w1.cell? ⟨w.heap.size + 1 + 1 + 1, 1, none⟩ = some (.slice none 0 0) ∧ w1.cell? ⟨w.heap.size + 1 + 1 + 1, 2, none⟩ = some (.slice none 0 0) := by refine ⟨?_, ?_, ?_, ?_, ?_, ?_, ?_, ?_, ?_, ?_, ?_, ?_, ?_, ?_, ?_, ?_, ?_, ?_⟩ <;> (refine (hb1.cell ?_).trans ?_ <;> first | (first | (with_reducible assumption) | omega | (simp only [World.size_alloc, World.size_setCell, World.size_drew, World.heap_drewN] <;> omega) | (simp <;> omega)) | (first | (with_reducible assumption) | ((try simp (disch := first | omega | (simp only [World.size_alloc, World.size_setCell, World.size_drew, World.heap_drewN] <;> omega) | fail) only [World.cell?_alloc_past, World.cell?_alloc_at, World.frozen?_alloc_past, World.frozen?_alloc_at, World.frozen?_setCell, World.cell?_drew, World.frozen?_drew]) <;> first | (with_reducible assumption) | rfl)))
    have all_f : w1.frozen? ⟨w.heap.size + 1 + 1 + 1, 0, none⟩ = false ∧ w1.frozen? ⟨w.heap.size + 1 + 1 + 1, 1, none⟩ = false ∧ w1.frozen? ⟨w.heap.size + 1 + 1 + 1, 2, none⟩ = false := by refine ⟨?_, ?_, ?_⟩ <;> (refine (hb1.frozen ?_).trans ?_ <;> first | (first | (with_reducible assumption) | omega | (simp only [World.size_alloc, World.size_setCell, World.size_drew, World.heap_drewN] <;> omega) | (simp <;> omega)) | (first | (with_reducible assumption) | ((try simp (disch := first | omega | (simp only [World.size_alloc, World.size_setCell, World.size_drew, World.heap_drewN] <;> omega) | fail) only [World.cell?_alloc_past, World.cell?_alloc_at, World.frozen?_alloc_past, World.frozen?_alloc_at, World.frozen?_setCell, World.cell?_drew, World.frozen?_drew]) <;> first | (with_reducible assumption) | rfl)))
    have all_z : w.heap.size < w1.heap.size ∧ w.heap.size + 1 < w1.heap.size ∧ w.heap.size + 1 + 1 < w1.heap.size ∧ w.heap.size + 1 + 1 + 1 < w1.heap.size := by refine ⟨?_, ?_, ?_, ?_⟩ <;> (omega)
    obtain ⟨c_x0, c_x1, c_x2, c_s0, c_s1, c_s2, c_s3, c_s4, c_s5, c_t0, c_t1, c_t2, c_t3, c_t4, c_t5, c_r0, c_r1, c_r2⟩ := all_c
    try clear all_c
    obtain ⟨f_r0, f_r1, f_r2⟩ := all_f
    try clear all_f
    obtain ⟨z_x, z_s, z_t, z_r⟩ := all_z
    try clear all_z
    have hB1 : Below w.heap.size w w1 := by (repeat (first | (with_reducible exact Below.refl _ _) | (with_reducible assumption) | (with_reducible exact Hid.out (by with_reducible assumption)) | (with_reducible refine Below.alloc ?_ ?_ _) | (with_reducible refine Below.setCell ?_ ?_ _) | (with_reducible refine below_drewN ?_ _) | (with_reducible refine Below.drew ?_) | (with_reducible refine below_via (by with_reducible assumption) ?_ ?_) | (first | (with_reducible assumption) | omega | (simp only [World.size_alloc, World.size_setCell, World.size_drew, World.heap_drewN] <;> omega) | (simp <;> omega))))
    have hz1 := hb1.size
    simp only [World.size_alloc] at hz1
    obtain ⟨va1, vc1, rfl, -⟩ := owns_news o1
    obtain ⟨ua1, uc1, rfl, -⟩ := owns_news o2
    have O1 := Lib.hid o1
    have O2 := Lib.hid o2
    clear o1 o2 hb1
    have hx : Below w1.heap.size w1 (w1.alloc (.cells #[.int .i64 bL, .slice va1 bm.length vc1, .slice ua1 bc.length uc1] 25)) := (Below.refl _ _).alloc (Nat.le_refl _) _
    go_wp2_with fail
    refine (TU.out _ (by (repeat (first | (with_reducible exact Below.refl _ _) | (with_reducible assumption) | (with_reducible exact Hid.out (by with_reducible assumption)) | (with_reducible refine Below.alloc ?_ ?_ _) | (with_reducible refine Below.setCell ?_ ?_ _) | (with_reducible refine below_drewN ?_ _) | (with_reducible refine Below.drew ?_) | (with_reducible refine below_via (by with_reducible assumption) ?_ ?_) | (first | (with_reducible assumption) | omega | (simp only [World.size_alloc, World.size_setCell, World.size_drew, World.heap_drewN] <;> omega) | (simp <;> omega)))))).mono ?_
    rintro e w2 ⟨rfl, hb2⟩
    have hz_w2 := hb2.size
    try simp only [World.size_alloc, World.size_setCell] at hz_w2
    have all_c : w2.cell? ⟨w.heap.size, 0, none⟩ = some (.int .i64 l) ∧ w2.cell? ⟨w.heap.size, 1, none⟩ = some (.slice ma n1 mc) ∧ w2.cell? ⟨w.heap.size, 2, none⟩ = some (.slice ica n2 icc) ∧ w2.cell? ⟨w.heap.size + 1, 0, none⟩ = some (.int .i64 seg) ∧ w2.cell? ⟨w.heap.size + 1, 1, none⟩ = some (.slice wa lw wc) ∧ w2.cell? ⟨w.heap.size + 1, 2, none⟩ = some (.slice ka lk kc) ∧ w2.cell? ⟨w.heap.size + 1, 3, none⟩ = some (.slice va lv vc) ∧ w2.cell? ⟨w.heap.size + 1, 4, none⟩ = some (.slice ca lc cc) ∧ w2.cell? ⟨w.heap.size + 1, 5, none⟩ = some (.int .u64 laid) ∧ w2.cell? ⟨w.heap.size + 1 + 1, 0, none⟩ = some (.int .i64 seg') ∧ w2.cell? ⟨w.heap.size + 1 + 1, 1, none⟩ = some (.slice wa' lw' wc') ∧ w2.cell? ⟨w.heap.size + 1 + 1, 2, none⟩ = some (.slice ka' lk' kc') ∧ w2.cell? ⟨w.heap.size + 1 + 1, 3, none⟩ = some (.slice va' lv' vc') ∧ w2.cell? ⟨w.heap.size + 1 + 1, 4, none⟩ = some (.slice ca' lc' cc') ∧ w2.cell? ⟨w.heap.size + 1 + 1, 5, none⟩ = some (.int .u64 laid') ∧ w2.cell? ⟨w.heap.size + 1 + 1 + 1, 0, none⟩ = some (.int .i64 0) ∧ w2.cell? ⟨w.heap.size + 1 + 1 + 1, 1, none⟩ = some (.slice none 0 0) ∧ w2.cell? ⟨w.heap.size + 1 + 1 + 1, 2, none⟩ = some (.slice none 0 0) ∧ w2.cell? ⟨w1.heap.size, 0, none⟩ = some (.int .i64 bL) ∧ w2.cell? ⟨w1.heap.size, 1, none⟩ = some (.slice va1 bm.length vc1) ∧ w2.cell? ⟨w1.heap.size, 2, none⟩ = some (.slice ua1 bc.length uc1) := by refine ⟨?_, ?_, ?_, ?_, ?_, ?_, ?_, ?_, ?_, ?_, ?_, ?_, ?_, ?_, ?_, ?_, ?_, ?_, ?_, ?_, ?_⟩ <;> (refine (hb2.cell ?_).trans ?_ <;> first | (first | (with_reducible assumption) | omega | (simp only [World.size_alloc, World.size_setCell, World.size_drew, World.heap_drewN] <;> omega) | (simp <;> omega)) | (first | (with_reducible assumption) | ((try simp (disch := first | omega | (simp only [World.size_alloc, World.size_setCell, World.size_drew, World.heap_drewN] <;> omega) | fail) only [World.cell?_alloc_past, World.cell?_alloc_at, World.frozen?_alloc_past, World.frozen?_alloc_at, World.frozen?_setCell, World.cell?_drew, World.frozen?_drew]) <;> first | (with_reducible assumption) | rfl)))
    have all_f : w2.frozen? ⟨w.heap.size + 1 + 1 + 1, 0, none⟩ = false ∧ w2.frozen? ⟨w.heap.size + 1 + 1 + 1, 1, none⟩ = false ∧ w2.frozen? ⟨w.heap.size + 1 + 1 + 1, 2, none⟩ = false := by refine ⟨?_, ?_, ?_⟩ <;> (refine (hb2.frozen ?_).trans ?_ <;> first | (first | (with_reducible assumption) | omega | (simp only [World.size_alloc, World.size_setCell, World.size_drew, World.heap_drewN] <;> omega) | (simp <;> omega)) | (first | (with_reducible assumption) | ((try simp (disch := first | omega | (simp only [World.size_alloc, World.size_setCell, World.size_drew, World.heap_drewN] <;> omega) | fail) only [World.cell?_alloc_past, World.cell?_alloc_at, World.frozen?_alloc_past, World.frozen?_alloc_at, World.frozen?_setCell, World.cell?_drew, World.frozen?_drew]) <;> first | (with_reducible assumption) | rfl)))
    have all_z : w.heap.size < w2.heap.size ∧ w.heap.size + 1 < w2.heap.size ∧ w.heap.size + 1 + 1 < w2.heap.size ∧ w.heap.size + 1 + 1 + 1 < w2.heap.size ∧ w1.heap.size < w2.heap.size := by refine ⟨?_, ?_, ?_, ?_, ?_⟩ <;> (omega)
    clear c_x0 c_x1 c_x2 c_s0 c_s1 c_s2 c_s3 c_s4 c_s5 c_t0 c_t1 c_t2 c_t3 c_t4 c_t5 c_r0 c_r1 c_r2 f_r0 f_r1 f_r2 z_x z_s z_t z_r
    obtain ⟨c_x0, c_x1, c_x2, c_s0, c_s1, c_s2, c_s3, c_s4, c_s5, c_t0, c_t1, c_t2, c_t3, c_t4, c_t5, c_r0, c_r1, c_r2, c_y0, c_y1, c_y2⟩ := all_c
    try clear all_c
    obtain ⟨f_r0, f_r1, f_r2⟩ := all_f
    try clear all_f
    obtain ⟨z_x, z_s, z_t, z_r, z_y⟩ := all_z
    try clear all_z
    have h2 : Below w1.heap.size w1 w2 := below_via hb2 hx (by simp)
    have hB2 : Below w.heap.size w w2 := below_via h2 hB1 (by omega)
    go_wp2_with fail
    refine (OF.out _ hB2).mono ?_
    rintro e w3 ⟨rfl, hb3⟩
    have hz_w3 := hb3.size
    try simp only [World.size_alloc, World.size_setCell] at hz_w3
    have all_c : w3.cell? ⟨w.heap.size, 0, none⟩ = some (.int .i64 l) ∧ w3.cell? ⟨w.heap.size, 1, none⟩ = some (.slice ma n1 mc) ∧ w3.cell? ⟨w.heap.size, 2, none⟩ = some (.slice ica n2 icc) ∧ w3.cell? ⟨w.heap.size + 1, 0, none⟩ = some (.int .i64 seg) ∧ w3.cell? ⟨w.heap.size + 1, 1, none⟩ = some (.slice wa lw wc) ∧ w3.cell? ⟨w.heap.size + 1, 2, none⟩ = some (.slice ka lk kc) ∧ w3.cell? ⟨w.heap.size + 1, 3, none⟩ = some (.slice va lv vc) ∧ w3.cell? ⟨w.heap.size + 1, 4, none⟩ = some (.slice ca lc cc) ∧ w3.cell? ⟨w.heap.size + 1, 5, none⟩ = some (.int .u64 laid) ∧ w3.cell? ⟨w.heap.size + 1 + 1, 0, none⟩ = some (.int .i64 seg') ∧ w3.cell? ⟨w.heap.size + 1 + 1, 1, none⟩ = some (.slice wa' lw' wc') ∧ w3.cell? ⟨w.heap.size + 1 + 1, 2, none⟩ = some (.slice ka' lk' kc') ∧ w3.cell? ⟨w.heap.size + 1 + 1, 3, none⟩ = some (.slice va' lv' vc') ∧ w3.cell? ⟨w.heap.size + 1 + 1, 4, none⟩ = some (.slice ca' lc' cc') ∧ w3.cell? ⟨w.heap.size + 1 + 1, 5, none⟩ = some (.int .u64 laid') ∧ w3.cell? ⟨w.heap.size + 1 + 1 + 1, 0, none⟩ = some (.int .i64 0) ∧ w3.cell? ⟨w.heap.size + 1 + 1 + 1, 1, none⟩ = some (.slice none 0 0) ∧ w3.cell? ⟨w.heap.size + 1 + 1 + 1, 2, none⟩ = some (.slice none 0 0) ∧ w3.cell? ⟨w1.heap.size, 0, none⟩ = some (.int .i64 bL) ∧ w3.cell? ⟨w1.heap.size, 1, none⟩ = some (.slice va1 bm.length vc1) ∧ w3.cell? ⟨w1.heap.size, 2, none⟩ = some (.slice ua1 bc.length uc1) := by refine ⟨?_, ?_, ?_, ?_, ?_, ?_, ?_, ?_, ?_, ?_, ?_, ?_, ?_, ?_, ?_, ?_, ?_, ?_, ?_, ?_, ?_⟩ <;> (refine (hb3.cell ?_).trans ?_ <;> first | (first | (with_reducible assumption) | omega | (simp only [World.size_alloc, World.size_setCell, World.size_drew, World.heap_drewN] <;> omega) | (simp <;> omega)) | (first | (with_reducible assumption) | ((try simp (disch := first | omega | (simp only [World.size_alloc, World.size_setCell, World.size_drew, World.heap_drewN] <;> omega) | fail) only [World.cell?_alloc_past, World.cell?_alloc_at, World.frozen?_alloc_past, World.frozen?_alloc_at, World.frozen?_setCell, World.cell?_drew, World.frozen?_drew]) <;> first | (with_reducible assumption) | rfl)))
    have all_f : w3.frozen? ⟨w.heap.size + 1 + 1 + 1, 0, none⟩ = false ∧ w3.frozen? ⟨w.heap.size + 1 + 1 + 1, 1, none⟩ = false ∧ w3.frozen? ⟨w.heap.size + 1 + 1 + 1, 2, none⟩ = false := by refine ⟨?_, ?_, ?_⟩ <;> (refine (hb3.frozen ?_).trans ?_ <;> first | (first | (with_reducible assumption) | omega | (simp only [World.size_alloc, World.size_setCell, World.size_drew, World.heap_drewN] <;> omega) | (simp <;> omega)) | (first | (with_reducible assumption) | ((try simp (disch := first | omega | (simp only [World.size_alloc, World.size_setCell, World.size_drew, World.heap_drewN] <;> omega) | fail) only [World.cell?_alloc_past, World.cell?_alloc_at, World.frozen?_alloc_past, World.frozen?_alloc_at, World.frozen?_setCell, World.cell?_drew, World.frozen?_drew]) <;> first | (with_reducible assumption) | rfl)))
    have all_z : w.heap.size < w3.heap.size ∧ w.heap.size + 1 < w3.heap.size ∧ w.heap.size + 1 + 1 < w3.heap.size ∧ w.heap.size + 1 + 1 + 1 < w3.heap.size ∧ w1.heap.size < w3.heap.size := by refine ⟨?_, ?_, ?_, ?_, ?_⟩ <;> (omega)
    clear c_x0 c_x1 c_x2 c_s0 c_s1 c_s2 c_s3 c_s4 c_s5 c_t0 c_t1 c_t2 c_t3 c_t4 c_t5 c_r0 c_r1 c_r2 c_y0 c_y1 c_y2 f_r0 f_r1 f_r2 z_x z_s z_t z_r z_y
    obtain ⟨c_x0, c_x1, c_x2, c_s0, c_s1, c_s2, c_s3, c_s4, c_s5, c_t0, c_t1, c_t2, c_t3, c_t4, c_t5, c_r0, c_r1, c_r2, c_y0, c_y1, c_y2⟩ := all_c
    try clear all_c
    obtain ⟨f_r0, f_r1, f_r2⟩ := all_f
    try clear all_f
    obtain ⟨z_x, z_s, z_t, z_r, z_y⟩ := all_z
    try clear all_z
    have h3 : Below w1.heap.size w1 w3 := below_via hb3 h2 (by omega)
    have hB3 : Below w.heap.size w w3 := below_via h3 hB1 (by omega)
    clear hb2 hb3 hx h2 hB2
    go_wp2
    have o1 := owns_below O1.out h3
    have o2 := owns_below O2.out h3
    simp only [World.size_alloc] at o1 o2
    have hsw := three_set (w2 := w3) (b := w.heap.size + 1 + 1 + 1) (x := .int .i64 bL) (y := .slice va1 bm.length vc1) (z := .slice ua1 bc.length uc1) c_r0 c_r1 c_r2
    have hkE : ∀ q, q ≠ w.heap.size + 1 + 1 + 1 → ((((w3.setCell ⟨w.heap.size + 1 + 1 + 1, 0, none⟩ (.int .i64 bL)).setCell ⟨w.heap.size + 1 + 1 + 1, 1, none⟩ (.slice va1 bm.length vc1)).setCell ⟨w.heap.size + 1 + 1 + 1, 2, none⟩ (.slice ua1 bc.length uc1))).heap[q]? = w3.heap[q]? := fun q hq => by rw [heap_setCell_ne _ _ _ hq, heap_setCell_ne _ _ _ hq, heap_setCell_ne _ _ _ hq]
    refine bodyPost_ret (results_ct rfl rfl (run_loadVar_many _ Try.underlying25 rfl (by kernel_rfl) (three_at hsw.1 hsw.2.1 hsw.2.2))) rfl ⟨_, _, rfl, ?_, ?_, ?_⟩
    · exact owns_base (owns_heap o1 fun q hq => hkE q (by have := (o1).lt q hq; omega)) (by omega)
    · exact owns_base (owns_heap o2 fun q hq => hkE q (by have := (o2).lt q hq; omega)) (by omega)
    · exact ((hB3.setCell (by dsimp only; omega) _).setCell (by dsimp only; omega) _).setCell (by dsimp only; omega) _
  · have g1 : (f1 != 0) = true := by simpa using h
    clear h
    go_enter Try.func20, Try.ntmps20
    go_wp2_with fail
    refine (BI.out _ (by (repeat (first | (with_reducible exact Below.refl _ _) | (with_reducible assumption) | (with_reducible exact Hid.out (by with_reducible assumption)) | (with_reducible refine Below.alloc ?_ ?_ _) | (with_reducible refine Below.setCell ?_ ?_ _) | (with_reducible refine below_drewN ?_ _) | (with_reducible refine Below.drew ?_) | (with_reducible refine below_via (by with_reducible assumption) ?_ ?_) | (first | (with_reducible assumption) | omega | (simp only [World.size_alloc, World.size_setCell, World.size_drew, World.heap_drewN] <;> omega) | (simp <;> omega)))))).mono ?_
    rintro e w1 ⟨v, u, rfl, o1, o2, hb1⟩
    have hz_w1 := hb1.size
    try simp only [World.size_alloc, World.size_setCell] at hz_w1
    have all_c : w1.cell? ⟨w.heap.size, 0, none⟩ = some (.int .i64 l) ∧ w1.cell? ⟨w.heap.size, 1, none⟩ = some (.slice ma n1 mc) ∧ w1.cell? ⟨w.heap.size, 2, none⟩ = some (.slice ica n2 icc) ∧ w1.cell? ⟨w.heap.size + 1, 0, none⟩ = some (.int .i64 seg) ∧ w1.cell? ⟨w.heap.size + 1, 1, none⟩ = some (.slice wa lw wc) ∧ w1.cell? ⟨w.heap.size + 1, 2, none⟩ = some (.slice ka lk kc) ∧ w1.cell? ⟨w.heap.size + 1, 3, none⟩ = some (.slice va lv vc) ∧ w1.cell? ⟨w.heap.size + 1, 4, none⟩ = some (.slice ca lc cc) ∧ w1.cell? ⟨w.heap.size + 1, 5, none⟩ = some (.int .u64 laid) ∧ w1.cell? ⟨w.heap.size + 1 + 1, 0, none⟩ = some (.int .i64 seg') ∧ w1.cell? ⟨w.heap.size + 1 + 1, 1, none⟩ = some (.slice wa' lw' wc') ∧ w1.cell? ⟨w.heap.size + 1 + 1, 2, none⟩ = some (.slice ka' lk' kc') ∧ w1.cell? ⟨w.heap.size + 1 + 1, 3, none⟩ = some (.slice va' lv' vc') ∧ w1.cell? ⟨w.heap.size + 1 + 1, 4, none⟩ = some (.slice ca' lc' cc') ∧ w1.cell? ⟨w.heap.size + 1 + 1, 5, none⟩ = some (.int .u64 laid') ∧ w1.cell? ⟨w.heap.size + 1 + 1 + 1, 0, none⟩ = some (.int .i64 0) ∧ w1.cell? ⟨w.heap.size + 1 + 1 + 1, 1, none⟩ = some (.slice none 0 0) ∧ w1.cell? ⟨w.heap.size + 1 + 1 + 1, 2, none⟩ = some (.slice none 0 0) := by refine ⟨?_, ?_, ?_, ?_, ?_, ?_, ?_, ?_, ?_, ?_, ?_, ?_, ?_, ?_, ?_, ?_, ?_, ?_⟩ <;> (refine (hb1.cell ?_).trans ?_ <;> first | (first | (with_reducible assumption) | omega | (simp only [World.size_alloc, World.size_setCell, World.size_drew, World.heap_drewN] <;> omega) | (simp <;> omega)) | (first | (with_reducible assumption) | ((try simp (disch := first | omega | (simp only [World.size_alloc, World.size_setCell, World.size_drew, World.heap_drewN] <;> omega) | fail) only [World.cell?_alloc_past, World.cell?_alloc_at, World.frozen?_alloc_past, World.frozen?_alloc_at, World.frozen?_setCell, World.cell?_drew, World.frozen?_drew]) <;> first | (with_reducible assumption) | rfl)))
    have all_f : w1.frozen? ⟨w.heap.size + 1 + 1 + 1, 0, none⟩ = false ∧ w1.frozen? ⟨w.heap.size + 1 + 1 + 1, 1, none⟩ = false ∧ w1.frozen? ⟨w.heap.size + 1 + 1 + 1, 2, none⟩ = false := by refine ⟨?_, ?_, ?_⟩ <;> (refine (hb1.frozen ?_).trans ?_ <;> first | (first | (with_reducible assumption) | omega | (simp only [World.size_alloc, World.size_setCell, World.size_drew, World.heap_drewN] <;> omega) | (simp <;> omega)) | (first | (with_reducible assumption) | ((try simp (disch := first | omega | (simp only [World.size_alloc, World.size_setCell, World.size_drew, World.heap_drewN] <;> omega) | fail) only [World.cell?_alloc_past, World.cell?_alloc_at, World.frozen?_alloc_past, World.frozen?_alloc_at, World.frozen?_setCell, World.cell?_drew, World.frozen?_drew]) <;> first | (with_reducible assumption) | rfl)))
    have all_z : w.heap.size < w1.heap.size ∧ w.heap.size + 1 < w1.heap.size ∧ w.heap.size + 1 + 1 < w1.heap.size ∧ w.heap.size + 1 + 1 + 1 < w1.heap.size := by refine ⟨?_, ?_, ?_, ?_⟩ <;> (omega)
    obtain ⟨c_x0, c_x1, c_x2, c_s0, c_s1, c_s2, c_s3, c_s4, c_s5, c_t0, c_t1, c_t2, c_t3, c_t4, c_t5, c_r0, c_r1, c_r2⟩ := all_c
    try clear all_c
    obtain ⟨f_r0, f_r1, f_r2⟩ := all_f
    try clear all_f
    obtain ⟨z_x, z_s, z_t, z_r⟩ := all_z
    try clear all_z
    have hB1 : Below w.heap.size w w1 := by (repeat (first | (with_reducible exact Below.refl _ _) | (with_reducible assumption) | (with_reducible exact Hid.out (by with_reducible assumption)) | (with_reducible refine Below.alloc ?_ ?_ _) | (with_reducible refine Below.setCell ?_ ?_ _) | (with_reducible refine below_drewN ?_ _) | (with_reducible refine Below.drew ?_) | (with_reducible refine below_via (by with_reducible assumption) ?_ ?_) | (first | (with_reducible assumption) | omega | (simp only [World.size_alloc, World.size_setCell, World.size_drew, World.heap_drewN] <;> omega) | (simp <;> omega))))
    have hz1 := hb1.size
    simp only [World.size_alloc] at hz1
    obtain ⟨va1, vc1, rfl, -⟩ := owns_news o1
    obtain ⟨ua1, uc1, rfl, -⟩ := owns_news o2
    have O1 := Lib.hid o1
    have O2 := Lib.hid o2
    clear o1 o2 hb1
    have hx : Below w1.heap.size w1 (w1.alloc (.cells #[.int .i64 bL, .slice va1 bm.length vc1, .slice ua1 bc.length uc1] 25)) := (Below.refl _ _).alloc (Nat.le_refl _) _
    go_wp2_with fail
    refine (TU.out _ (by (repeat (first | (with_reducible exact Below.refl _ _) | (with_reducible assumption) | (with_reducible exact Hid.out (by with_reducible assumption)) | (with_reducible refine Below.alloc ?_ ?_ _) | (with_reducible refine Below.setCell ?_ ?_ _) | (with_reducible refine below_drewN ?_ _) | (with_reducible refine Below.drew ?_) | (with_reducible refine below_via (by with_reducible assumption) ?_ ?_) | (first | (with_reducible assumption) | omega | (simp only [World.size_alloc, World.size_setCell, World.size_drew, World.heap_drewN] <;> omega) | (simp <;> omega)))))).mono ?_
    rintro e w2 ⟨rfl, hb2⟩
    have hz_w2 := hb2.size
    try simp only [World.size_alloc, World.size_setCell] at hz_w2
    have all_c : w2.cell? ⟨w.heap.size, 0, none⟩ = some (.int .i64 l) ∧ w2.cell? ⟨w.heap.size, 1, none⟩ = some (.slice ma n1 mc) ∧ w2.cell? ⟨w.heap.size, 2, none⟩ = some (.slice ica n2 icc) ∧ w2.cell? ⟨w.heap.size + 1, 0, none⟩ = some (.int .i64 seg) ∧ w2.cell? ⟨w.heap.size + 1, 1, none⟩ = some (.slice wa lw wc) ∧ w2.cell? ⟨w.heap.size + 1, 2, none⟩ = some (.slice ka lk kc) ∧ w2.cell? ⟨w.heap.size + 1, 3, none⟩ = some (.slice va lv vc) ∧ w2.cell? ⟨w.heap.size + 1, 4, none⟩ = some (.slice ca lc cc) ∧ w2.cell? ⟨w.heap.size + 1, 5, none⟩ = some (.int .u64 laid) ∧ w2.cell? ⟨w.heap.size + 1 + 1, 0, none⟩ = some (.int .i64 seg') ∧ w2.cell? ⟨w.heap.size + 1 + 1, 1, none⟩ = some (.slice wa' lw' wc') ∧ w2.cell? ⟨w.heap.size + 1 + 1, 2, none⟩ = some (.slice ka' lk' kc') ∧ w2.cell? ⟨w.heap.size + 1 + 1, 3, none⟩ = some (.slice va' lv' vc') ∧ w2.cell? ⟨w.heap.size + 1 + 1, 4, none⟩ = some (.slice ca' lc' cc') ∧ w2.cell? ⟨w.heap.size + 1 + 1, 5, none⟩ = some (.int .u64 laid') ∧ w2.cell? ⟨w.heap.size + 1 + 1 + 1, 0, none⟩ = some (.int .i64 0) ∧ w2.cell? ⟨w.heap.size + 1 + 1 + 1, 1, none⟩ = some (.slice none 0 0) ∧ w2.cell? ⟨w.heap.size + 1 + 1 + 1, 2, none⟩ = some (.slice none 0 0) ∧ w2.cell? ⟨w1.heap.size, 0, none⟩ = some (.int .i64 bL) ∧ w2.cell? ⟨w1.heap.size, 1, none⟩ = some (.slice va1 bm.length vc1) ∧ w2.cell? ⟨w1.heap.size, 2, none⟩ = some (.slice ua1 bc.length uc1) := by refine ⟨?_, ?_, ?_, ?_, ?_, ?_, ?_, ?_, ?_, ?_, ?_, ?_, ?_, ?_, ?_, ?_, ?_, ?_, ?_, ?_, ?_⟩ <;> (refine (hb2.cell ?_).trans ?_ <;> first | (first | (with_reducible assumption) | omega | (simp only [World.size_alloc, World.size_setCell, World.size_drew, World.heap_drewN] <;> omega) | (simp <;> omega)) | (first | (with_reducible assumption) | ((try simp (disch := first | omega | (simp only [World.size_alloc, World.size_setCell, World.size_drew, World.heap_drewN] <;> omega) | fail) only [World.cell?_alloc_past, World.cell?_alloc_at, World.frozen?_alloc_past, World.frozen?_alloc_at, World.frozen?_setCell, World.cell?_drew, World.frozen?_drew]) <;> first | (with_reducible assumption) | rfl)))
    have all_f : w2.frozen? ⟨w.heap.size + 1 + 1 + 1, 0, none⟩ = false ∧ w2.frozen? ⟨w.heap.size + 1 + 1 + 1, 1, none⟩ = false ∧ w2.frozen? ⟨w.heap.size + 1 + 1 + 1, 2, none⟩ = false := by refine ⟨?_, ?_, ?_⟩ <;> (refine (hb2.frozen ?_).trans ?_ <;> first | (first | (with_reducible assumption) | omega | (simp only [World.size_alloc, World.size_setCell, World.size_drew, World.heap_drewN] <;> omega) | (simp <;> omega)) | (first | (with_reducible assumption) | ((try simp (disch := first | omega | (simp only [World.size_alloc, World.size_setCell, World.size_drew, World.heap_drewN] <;> omega) | fail) only [World.cell?_alloc_past, World.cell?_alloc_at, World.frozen?_alloc_past, World.frozen?_alloc_at, World.frozen?_setCell, World.cell?_drew, World.frozen?_drew]) <;> first | (with_reducible assumption) | rfl)))
    have all_z : w.heap.size < w2.heap.size ∧ w.heap.size + 1 < w2.heap.size ∧ w.heap.size + 1 + 1 < w2.heap.size ∧ w.heap.size + 1 + 1 + 1 < w2.heap.size ∧ w1.heap.size < w2.heap.size := by refine ⟨?_, ?_, ?_, ?_, ?_⟩ <;> (omega)
    clear c_x0 c_x1 c_x2 c_s0 c_s1 c_s2 c_s3 c_s4 c_s5 c_t0 c_t1 c_t2 c_t3 c_t4 c_t5 c_r0 c_r1 c_r2 f_r0 f_r1 f_r2 z_x z_s z_t z_r
    obtain ⟨c_x0, c_x1, c_x2, c_s0, c_s1, c_s2, c_s3, c_s4, c_s5, c_t0, c_t1, c_t2, c_t3, c_t4, c_t5, c_r0, c_r1, c_r2, c_y0, c_y1, c_y2⟩ := all_c
    try clear all_c
    obtain ⟨f_r0, f_r1, f_r2⟩ := all_f
    try clear all_f
    obtain ⟨z_x, z_s, z_t, z_r, z_y⟩ := all_z
    try clear all_z
    have h2 : Below w1.heap.size w1 w2 := below_via hb2 hx (by simp)
    have hB2 : Below w.heap.size w w2 := below_via h2 hB1 (by omega)
    go_wp2_with fail
    refine (OF.out _ hB2).mono ?_
    rintro e w3 ⟨rfl, hb3⟩
    have hz_w3 := hb3.size
    try simp only [World.size_alloc, World.size_setCell] at hz_w3
    have all_c : w3.cell? ⟨w.heap.size, 0, none⟩ = some (.int .i64 l) ∧ w3.cell? ⟨w.heap.size, 1, none⟩ = some (.slice ma n1 mc) ∧ w3.cell? ⟨w.heap.size, 2, none⟩ = some (.slice ica n2 icc) ∧ w3.cell? ⟨w.heap.size + 1, 0, none⟩ = some (.int .i64 seg) ∧ w3.cell? ⟨w.heap.size + 1, 1, none⟩ = some (.slice wa lw wc) ∧ w3.cell? ⟨w.heap.size + 1, 2, none⟩ = some (.slice ka lk kc) ∧ w3.cell? ⟨w.heap.size + 1, 3, none⟩ = some (.slice va lv vc) ∧ w3.cell? ⟨w.heap.size + 1, 4, none⟩ = some (.slice ca lc cc) ∧ w3.cell? ⟨w.heap.size + 1, 5, none⟩ = some (.int .u64 laid) ∧ w3.cell? ⟨w.heap.size + 1 + 1, 0, none⟩ = some (.int .i64 seg') ∧ w3.cell? ⟨w.heap.size + 1 + 1, 1, none⟩ = some (.slice wa' lw' wc') ∧ w3.cell? ⟨w.heap.size + 1 + 1, 2, none⟩ = some (.slice ka' lk' kc') ∧ w3.cell? ⟨w.heap.size + 1 + 1, 3, none⟩ = some (.slice va' lv' vc') ∧ w3.cell? ⟨w.heap.size + 1 + 1, 4, none⟩ = some (.slice ca' lc' cc') ∧ w3.cell? ⟨w.heap.size + 1 + 1, 5, none⟩ = some (.int .u64 laid') ∧ w3.cell? ⟨w.heap.size + 1 + 1 + 1, 0, none⟩ = some (.int .i64 0) ∧ w3.cell? ⟨w.heap.size + 1 + 1 + 1, 1, none⟩ = some (.slice none 0 0) ∧ w3.cell? ⟨w.heap.size + 1 + 1 + 1, 2, none⟩ = some (.slice none 0 0) ∧ w3.cell? ⟨w1.heap.size, 0, none⟩ = some (.int .i64 bL) ∧ w3.cell? ⟨w1.heap.size, 1, none⟩ = some (.slice va1 bm.length vc1) ∧ w3.cell? ⟨w1.heap.size, 2, none⟩ = some (.slice ua1 bc.length uc1) := by refine ⟨?_, ?_, ?_, ?_, ?_, ?_, ?_, ?_, ?_, ?_, ?_, ?_, ?_, ?_, ?_, ?_, ?_, ?_, ?_, ?_, ?_⟩ <;> (refine (hb3.cell ?_).trans ?_ <;> first | (first | (with_reducible assumption) | omega | (simp only [World.size_alloc, World.size_setCell, World.size_drew, World.heap_drewN] <;> omega) | (simp <;> omega)) | (first | (with_reducible assumption) | ((try simp (disch := first | omega | (simp only [World.size_alloc, World.size_setCell, World.size_drew, World.heap_drewN] <;> omega) | fail) only [World.cell?_alloc_past, World.cell?_alloc_at, World.frozen?_alloc_past, World.frozen?_alloc_at, World.frozen?_setCell, World.cell?_drew, World.frozen?_drew]) <;> first | (with_reducible assumption) | rfl)))
    have all_f : w3.frozen? ⟨w.heap.size + 1 + 1 + 1, 0, none⟩ = false ∧ w3.frozen? ⟨w.heap.size + 1 + 1 + 1, 1, none⟩ = false ∧ w3.frozen? ⟨w.heap.size + 1 + 1 + 1, 2, none⟩ = false := by refine ⟨?_, ?_, ?_⟩ <;> (refine (hb3.frozen ?_).trans ?_ <;> first | (first | (with_reducible assumption) | omega | (simp only [World.size_alloc, World.size_setCell, World.size_drew, World.heap_drewN] <;> omega) | (simp <;> omega)) | (first | (with_reducible assumption) | ((try simp (disch := first | omega | (simp only [World.size_alloc, World.size_setCell, World.size_drew, World.heap_drewN] <;> omega) | fail) only [World.cell?_alloc_past, World.cell?_alloc_at, World.frozen?_alloc_past, World.frozen?_alloc_at, World.frozen?_setCell, World.cell?_drew, World.frozen?_drew]) <;> first | (with_reducible assumption) | rfl)))
    have all_z : w.heap.size < w3.heap.size ∧ w.heap.size + 1 < w3.heap.size ∧ w.heap.size + 1 + 1 < w3.heap.size ∧ w.heap.size + 1 + 1 + 1 < w3.heap.size ∧ w1.heap.size < w3.heap.size := by refine ⟨?_, ?_, ?_, ?_, ?_⟩ <;> (omega)
    clear c_x0 c_x1 c_x2 c_s0 c_s1 c_s2 c_s3 c_s4 c_s5 c_t0 c_t1 c_t2 c_t3 c_t4 c_t5 c_r0 c_r1 c_r2 c_y0 c_y1 c_y2 f_r0 f_r1 f_r2 z_x z_s z_t z_r z_y
    obtain ⟨c_x0, c_x1, c_x2, c_s0, c_s1, c_s2, c_s3, c_s4, c_s5, c_t0, c_t1, c_t2, c_t3, c_t4, c_t5, c_r0, c_r1, c_r2, c_y0, c_y1, c_y2⟩ := all_c
    try clear all_c
    obtain ⟨f_r0, f_r1, f_r2⟩ := all_f
    try clear all_f
    obtain ⟨z_x, z_s, z_t, z_r, z_y⟩ := all_z
    try clear all_z
    have h3 : Below w1.heap.size w1 w3 := below_via hb3 h2 (by omega)
    have hB3 : Below w.heap.size w w3 := below_via h3 hB1 (by omega)
    clear hb2 hb3 hx h2 hB2
    go_wp2
    have o1 := owns_below O1.out h3
    have o2 := owns_below O2.out h3
    simp only [World.size_alloc] at o1 o2
    have hsw := three_set (w2 := w3) (b := w.heap.size + 1 + 1 + 1) (x := .int .i64 bL) (y := .slice va1 bm.length vc1) (z := .slice ua1 bc.length uc1) c_r0 c_r1 c_r2
    have hkE : ∀ q, q ≠ w.heap.size + 1 + 1 + 1 → ((((w3.setCell ⟨w.heap.size + 1 + 1 + 1, 0, none⟩ (.int .i64 bL)).setCell ⟨w.heap.size + 1 + 1 + 1, 1, none⟩ (.slice va1 bm.length vc1)).setCell ⟨w.heap.size + 1 + 1 + 1, 2, none⟩ (.slice ua1 bc.length uc1))).heap[q]? = w3.heap[q]? := fun q hq => by rw [heap_setCell_ne _ _ _ hq, heap_setCell_ne _ _ _ hq, heap_setCell_ne _ _ _ hq]
    refine bodyPost_ret (results_ct rfl rfl (run_loadVar_many _ Try.underlying25 rfl (by kernel_rfl) (three_at hsw.1 hsw.2.1 hsw.2.2))) rfl ⟨_, _, rfl, ?_, ?_, ?_⟩
    · exact owns_base (owns_heap o1 fun q hq => hkE q (by have := (o1).lt q hq; omega)) (by omega)
    · exact owns_base (owns_heap o2 fun q hq => hkE q (by have := (o2).lt q hq; omega)) (by omega)
    · exact ((hB3.setCell (by dsimp only; omega) _).setCell (by dsimp only; omega) _).setCell (by dsimp only; omega) _
  · go_enter Try.func20, Try.ntmps20
    go_wp2_with fail
    refine (BI.out _ (by (repeat (first | (with_reducible exact Below.refl _ _) | (with_reducible assumption) | (with_reducible exact Hid.out (by with_reducible assumption)) | (with_reducible refine Below.alloc ?_ ?_ _) | (with_reducible refine Below.setCell ?_ ?_ _) | (with_reducible refine below_drewN ?_ _) | (with_reducible refine Below.drew ?_) | (with_reducible refine below_via (by with_reducible assumption) ?_ ?_) | (first | (with_reducible assumption) | omega | (simp only [World.size_alloc, World.size_setCell, World.size_drew, World.heap_drewN] <;> omega) | (simp <;> omega)))))).mono ?_
    rintro e w1 ⟨v, u, rfl, o1, o2, hb1⟩
    have hz_w1 := hb1.size
    try simp only [World.size_alloc, World.size_setCell] at hz_w1
    have all_c : w1.cell? ⟨w.heap.size, 0, none⟩ = some (.int .i64 l) ∧ w1.cell? ⟨w.heap.size, 1, none⟩ = some (.slice ma n1 mc) ∧ w1.cell? ⟨w.heap.size, 2, none⟩ = some (.slice ica n2 icc) ∧ w1.cell? ⟨w.heap.size + 1, 0, none⟩ = some (.int .i64 seg) ∧ w1.cell? ⟨w.heap.size + 1, 1, none⟩ = some (.slice wa lw wc) ∧ w1.cell? ⟨w.heap.size + 1, 2, none⟩ = some (.slice ka lk kc) ∧ w1.cell? ⟨w.heap.size + 1, 3, none⟩ = some (.slice va lv vc) ∧ w1.cell? ⟨w.heap.size + 1, 4, none⟩ = some (.slice ca lc cc) ∧ w1.cell? ⟨w.heap.size + 1, 5, none⟩ = some (.int .u64 laid) ∧ w1.cell? ⟨w.heap.size + 1 + 1, 0, none⟩ = some (.int .i64 seg') ∧ w1.cell? ⟨w.heap.size + 1 + 1, 1, none⟩ = some (.slice wa' lw' wc') ∧ w1.cell? ⟨w.heap.size + 1 + 1, 2, none⟩ = some (.slice ka' lk' kc') ∧ w1.cell? ⟨w.heap.size + 1 + 1, 3, none⟩ = some (.slice va' lv' vc') ∧ w1.cell? ⟨w.heap.size + 1 + 1, 4, none⟩ = some (.slice ca' lc' cc') ∧ w1.cell? ⟨w.heap.size + 1 + 1, 5, none⟩ = some (.int .u64 laid') ∧ w1.cell? ⟨w.heap.size + 1 + 1 + 1, 0, none⟩ = some (.int .i64 0) ∧ w1.cell? ⟨w.heap.size + 1 + 1 + 1, 1, none⟩ = some (.slice none 0 0) ∧ w1.cell? ⟨w.heap.size + 1 + 1 + 1, 2, none⟩ = some (.slice none 0 0) := by refine ⟨?_, ?_, ?_, ?_, ?_, ?_, ?_, ?_, ?_, ?_, ?_, ?_, ?_, ?_, ?_, ?_, ?_, ?_⟩ <;> (refine (hb1.cell ?_).trans ?_ <;> first | (first | (with_reducible assumption) | omega | (simp only [World.size_alloc, World.size_setCell, World.size_drew, World.heap_drewN] <;> omega) | (simp <;> omega)) | (first | (with_reducible assumption) | ((try simp (disch := first | omega | (simp only [World.size_alloc, World.size_setCell, World.size_drew, World.heap_drewN] <;> omega) | fail) only [World.cell?_alloc_past, World.cell?_alloc_at, World.frozen?_alloc_past, World.frozen?_alloc_at, World.frozen?_setCell, World.cell?_drew, World.frozen?_drew]) <;> first | (with_reducible assumption) | rfl)))
    have all_f : w1.frozen? ⟨w.heap.size + 1 + 1 + 1, 0, none⟩ = false ∧ w1.frozen? ⟨w.heap.size + 1 + 1 + 1, 1, none⟩ = false ∧ w1.frozen? ⟨w.heap.size + 1 + 1 + 1, 2, none⟩ = false := by refine ⟨?_, ?_, ?_⟩ <;> (refine (hb1.frozen ?_).trans ?_ <;> first | (first | (with_reducible assumption) | omega | (simp only [World.size_alloc, World.size_setCell, World.size_drew, World.heap_drewN] <;> omega) | (simp <;> omega)) | (first | (with_reducible assumption) | ((try simp (disch := first | omega | (simp only [World.size_alloc, World.size_setCell, World.size_drew, World.heap_drewN] <;> omega) | fail) only [World.cell?_alloc_past, World.cell?_alloc_at, World.frozen?_alloc_past, World.frozen?_alloc_at, World.frozen?_setCell, World.cell?_drew, World.frozen?_drew]) <;> first | (with_reducible assumption) | rfl)))
    have all_z : w.heap.size < w1.heap.size ∧ w.heap.size + 1 < w1.heap.size ∧ w.heap.size + 1 + 1 < w1.heap.size ∧ w.heap.size + 1 + 1 + 1 < w1.heap.size := by refine ⟨?_, ?_, ?_, ?_⟩ <;> (omega)
    obtain ⟨c_x0, c_x1, c_x2, c_s0, c_s1, c_s2, c_s3, c_s4, c_s5, c_t0, c_t1, c_t2, c_t3, c_t4, c_t5, c_r0, c_r1, c_r2⟩ := all_c
    try clear all_c
    obtain ⟨f_r0, f_r1, f_r2⟩ := all_f
    try clear all_f
    obtain ⟨z_x, z_s, z_t, z_r⟩ := all_z
    try clear all_z
    have hB1 : Below w.heap.size w w1 := by (repeat (first | (with_reducible exact Below.refl _ _) | (with_reducible assumption) | (with_reducible exact Hid.out (by with_reducible assumption)) | (with_reducible refine Below.alloc ?_ ?_ _) | (with_reducible refine Below.setCell ?_ ?_ _) | (with_reducible refine below_drewN ?_ _) | (with_reducible refine Below.drew ?_) | (with_reducible refine below_via (by with_reducible assumption) ?_ ?_) | (first | (with_reducible assumption) | omega | (simp only [World.size_alloc, World.size_setCell, World.size_drew, World.heap_drewN] <;> omega) | (simp <;> omega))))
    have hz1 := hb1.size
    simp only [World.size_alloc] at hz1
    obtain ⟨va1, vc1, rfl, -⟩ := owns_news o1
    obtain ⟨ua1, uc1, rfl, -⟩ := owns_news o2
    have O1 := Lib.hid o1
    have O2 := Lib.hid o2
    clear o1 o2 hb1
    have hx : Below w1.heap.size w1 (w1.alloc (.cells #[.int .i64 bL, .slice va1 bm.length vc1, .slice ua1 bc.length uc1] 25)) := (Below.refl _ _).alloc (Nat.le_refl _) _
    go_wp2_with fail
    refine (TU.out _ (by (repeat (first | (with_reducible exact Below.refl _ _) | (with_reducible assumption) | (with_reducible exact Hid.out (by with_reducible assumption)) | (with_reducible refine Below.alloc ?_ ?_ _) | (with_reducible refine Below.setCell ?_ ?_ _) | (with_reducible refine below_drewN ?_ _) | (with_reducible refine Below.drew ?_) | (with_reducible refine below_via (by with_reducible assumption) ?_ ?_) | (first | (with_reducible assumption) | omega | (simp only [World.size_alloc, World.size_setCell, World.size_drew, World.heap_drewN] <;> omega) | (simp <;> omega)))))).mono ?_
    rintro e w2 ⟨rfl, hb2⟩
    have hz_w2 := hb2.size
    try simp only [World.size_alloc, World.size_setCell] at hz_w2
    have all_c : w2.cell? ⟨w.heap.size, 0, none⟩ = some (.int .i64 l) ∧ w2.cell? ⟨w.heap.size, 1, none⟩ = some (.slice ma n1 mc) ∧ w2.cell? ⟨w.heap.size, 2, none⟩ = some (.slice ica n2 icc) ∧ w2.cell? ⟨w.heap.size + 1, 0, none⟩ = some (.int .i64 seg) ∧ w2.cell? ⟨w.heap.size + 1, 1, none⟩ = some (.slice wa lw wc) ∧ w2.cell? ⟨w.heap.size + 1, 2, none⟩ = some (.slice ka lk kc) ∧ w2.cell? ⟨w.heap.size + 1, 3, none⟩ = some (.slice va lv vc) ∧ w2.cell? ⟨w.heap.size + 1, 4, none⟩ = some (.slice ca lc cc) ∧ w2.cell? ⟨w.heap.size + 1, 5, none⟩ = some (.int .u64 laid) ∧ w2.cell? ⟨w.heap.size + 1 + 1, 0, none⟩ = some (.int .i64 seg') ∧ w2.cell? ⟨w.heap.size + 1 + 1, 1, none⟩ = some (.slice wa' lw' wc') ∧ w2.cell? ⟨w.heap.size + 1 + 1, 2, none⟩ = some (.slice ka' lk' kc') ∧ w2.cell? ⟨w.heap.size + 1 + 1, 3, none⟩ = some (.slice va' lv' vc') ∧ w2.cell? ⟨w.heap.size + 1 + 1, 4, none⟩ = some (.slice ca' lc' cc') ∧ w2.cell? ⟨w.heap.size + 1 + 1, 5, none⟩ = some (.int .u64 laid') ∧ w2.cell? ⟨w.heap.size + 1 + 1 + 1, 0, none⟩ = some (.int .i64 0) ∧ w2.cell? ⟨w.heap.size + 1 + 1 + 1, 1, none⟩ = some (.slice none 0 0) ∧ w2.cell? ⟨w.heap.size + 1 + 1 + 1, 2, none⟩ = some (.slice none 0 0) ∧ w2.cell? ⟨w1.heap.size, 0, none⟩ = some (.int .i64 bL) ∧ w2.cell? ⟨w1.heap.size, 1, none⟩ = some (.slice va1 bm.length vc1) ∧ w2.cell? ⟨w1.heap.size, 2, none⟩ = some (.slice ua1 bc.length uc1) := by refine ⟨?_, ?_, ?_, ?_, ?_, ?_, ?_, ?_, ?_, ?_, ?_, ?_, ?_, ?_, ?_, ?_, ?_, ?_, ?_, ?_, ?_⟩ <;> (refine (hb2.cell ?_).trans ?_ <;> first | (first | (with_reducible assumption) | omega | (simp only [World.size_alloc, World.size_setCell, World.size_drew, World.heap_drewN] <;> omega) | (simp <;> omega)) | (first | (with_reducible assumption) | ((try simp (disch := first | omega | (simp only [World.size_alloc, World.size_setCell, World.size_drew, World.heap_drewN] <;> omega) | fail) only [World.cell?_alloc_past, World.cell?_alloc_at, World.frozen?_alloc_past, World.frozen?_alloc_at, World.frozen?_setCell, World.cell?_drew, World.frozen?_drew]) <;> first | (with_reducible assumption) | rfl)))
    have all_f : w2.frozen? ⟨w.heap.size + 1 + 1 + 1, 0, none⟩ = false ∧ w2.frozen? ⟨w.heap.size + 1 + 1 + 1, 1, none⟩ = false ∧ w2.frozen? ⟨w.heap.size + 1 + 1 + 1, 2, none⟩ = false := by refine ⟨?_, ?_, ?_⟩ <;> (refine (hb2.frozen ?_).trans ?_ <;> first | (first | (with_reducible assumption) | omega | (simp only [World.size_alloc, World.size_setCell, World.size_drew, World.heap_drewN] <;> omega) | (simp <;> omega)) | (first | (with_reducible assumption) | ((try simp (disch := first | omega | (simp only [World.size_alloc, World.size_setCell, World.size_drew, World.heap_drewN] <;> omega) | fail) only [World.cell?_alloc_past, World.cell?_alloc_at, World.frozen?_alloc_past, World.frozen?_alloc_at, World.frozen?_setCell, World.cell?_drew, World.frozen?_drew]) <;> first | (with_reducible assumption) | rfl)))
    have all_z : w.heap.size < w2.heap.size ∧ w.heap.size + 1 < w2.heap.size ∧ w.heap.size + 1 + 1 < w2.heap.size ∧ w.heap.size + 1 + 1 + 1 < w2.heap.size ∧ w1.heap.size < w2.heap.size := by refine ⟨?_, ?_, ?_, ?_, ?_⟩ <;> (omega)
    clear c_x0 c_x1 c_x2 c_s0 c_s1 c_s2 c_s3 c_s4 c_s5 c_t0 c_t1 c_t2 c_t3 c_t4 c_t5 c_r0 c_r1 c_r2 f_r0 f_r1 f_r2 z_x z_s z_t z_r
    obtain ⟨c_x0, c_x1, c_x2, c_s0, c_s1, c_s2, c_s3, c_s4, c_s5, c_t0, c_t1, c_t2, c_t3, c_t4, c_t5, c_r0, c_r1, c_r2, c_y0, c_y1, c_y2⟩ := all_c
    try clear all_c
    obtain ⟨f_r0, f_r1, f_r2⟩ := all_f
    try clear all_f
    obtain ⟨z_x, z_s, z_t, z_r, z_y⟩ := all_z
    try clear all_z
    have h2 : Below w1.heap.size w1 w2 := below_via hb2 hx (by simp)
    have hB2 : Below w.heap.size w w2 := below_via h2 hB1 (by omega)
    go_wp2_with fail
    refine (OF.out _ hB2).mono ?_
    rintro e w3 ⟨rfl, hb3⟩
    have hz_w3 := hb3.size
    try simp only [World.size_alloc, World.size_setCell] at hz_w3
    have all_c : w3.cell? ⟨w.heap.size, 0, none⟩ = some (.int .i64 l) ∧ w3.cell? ⟨w.heap.size, 1, none⟩ = some (.slice ma n1 mc) ∧ w3.cell? ⟨w.heap.size, 2, none⟩ = some (.slice ica n2 icc) ∧ w3.cell? ⟨w.heap.size + 1, 0, none⟩ = some (.int .i64 seg) ∧ w3.cell? ⟨w.heap.size + 1, 1, none⟩ = some (.slice wa lw wc) ∧ w3.cell? ⟨w.heap.size + 1, 2, none⟩ = some (.slice ka lk kc) ∧ w3.cell? ⟨w.heap.size + 1, 3, none⟩ = some (.slice va lv vc) ∧ w3.cell? ⟨w.heap.size + 1, 4, none⟩ = some (.slice ca lc cc) ∧ w3.cell? ⟨w.heap.size + 1, 5, none⟩ = some (.int .u64 laid) ∧ w3.cell? ⟨w.heap.size + 1 + 1, 0, none⟩ = some (.int .i64 seg') ∧ w3.cell? ⟨w.heap.size + 1 + 1, 1, none⟩ = some (.slice wa' lw' wc') ∧ w3.cell? ⟨w.heap.size + 1 + 1, 2, none⟩ = some (.slice ka' lk' kc') ∧ w3.cell? ⟨w.heap.size + 1 + 1, 3, none⟩ = some (.slice va' lv' vc') ∧ w3.cell? ⟨w.heap.size + 1 + 1, 4, none⟩ = some (.slice ca' lc' cc') ∧ w3.cell? ⟨w.heap.size + 1 + 1, 5, none⟩ = some (.int .u64 laid') ∧ w3.cell? ⟨w.heap.size + 1 + 1 + 1, 0, none⟩ = some (.int .i64 0) ∧ w3.cell? ⟨w.heap.size + 1 + 1 + 1, 1, none⟩ = some (.slice none 0 0) ∧ w3.cell? ⟨w.heap.size + 1 + 1 + 1, 2, none⟩ = some (.slice none 0 0) ∧ w3.cell? ⟨w1.heap.size, 0, none⟩ = some (.int .i64 bL) ∧ w3.cell? ⟨w1.heap.size, 1, none⟩ = some (.slice va1 bm.length vc1) ∧ w3.cell? ⟨w1.heap.size, 2, none⟩ = some (.slice ua1 bc.length uc1) := by refine ⟨?_, ?_, ?_, ?_, ?_, ?_, ?_, ?_, ?_, ?_, ?_, ?_, ?_, ?_, ?_, ?_, ?_, ?_, ?_, ?_, ?_⟩ <;> (refine (hb3.cell ?_).trans ?_ <;> first | (first | (with_reducible assumption) | omega | (simp only [World.size_alloc, World.size_setCell, World.size_drew, World.heap_drewN] <;> omega) | (simp <;> omega)) | (first | (with_reducible assumption) | ((try simp (disch := first | omega | (simp only [World.size_alloc, World.size_setCell, World.size_drew, World.heap_drewN] <;> omega) | fail) only [World.cell?_alloc_past, World.cell?_alloc_at, World.frozen?_alloc_past, World.frozen?_alloc_at, World.frozen?_setCell, World.cell?_drew, World.frozen?_drew]) <;> first | (with_reducible assumption) | rfl)))
    have all_f : w3.frozen? ⟨w.heap.size + 1 + 1 + 1, 0, none⟩ = false ∧ w3.frozen? ⟨w.heap.size + 1 + 1 + 1, 1, none⟩ = false ∧ w3.frozen? ⟨w.heap.size + 1 + 1 + 1, 2, none⟩ = false := by refine ⟨?_, ?_, ?_⟩ <;> (refine (hb3.frozen ?_).trans ?_ <;> first | (first | (with_reducible assumption) | omega | (simp only [World.size_alloc, World.size_setCell, World.size_drew, World.heap_drewN] <;> omega) | (simp <;> omega)) | (first | (with_reducible assumption) | ((try simp (disch := first | omega | (simp only [World.size_alloc, World.size_setCell, World.size_drew, World.heap_drewN] <;> omega) | fail) only [World.cell?_alloc_past, World.cell?_alloc_at, World.frozen?_alloc_past, World.frozen?_alloc_at, World.frozen?_setCell, World.cell?_drew, World.frozen?_drew]) <;> first | (with_reducible assumption) | rfl)))
    have all_z : w.heap.size < w3.heap.size ∧ w.heap.size + 1 < w3.heap.size ∧ w.heap.size + 1 + 1 < w3.heap.size ∧ w.heap.size + 1 + 1 + 1 < w3.heap.size ∧ w1.heap.size < w3.heap.size := by refine ⟨?_, ?_, ?_, ?_, ?_⟩ <;> (omega)
    clear c_x0 c_x1 c_x2 c_s0 c_s1 c_s2 c_s3 c_s4 c_s5 c_t0 c_t1 c_t2 c_t3 c_t4 c_t5 c_r0 c_r1 c_r2 c_y0 c_y1 c_y2 f_r0 f_r1 f_r2 z_x z_s z_t z_r z_y
    obtain ⟨c_x0, c_x1, c_x2, c_s0, c_s1, c_s2, c_s3, c_s4, c_s5, c_t0, c_t1, c_t2, c_t3, c_t4, c_t5, c_r0, c_r1, c_r2, c_y0, c_y1, c_y2⟩ := all_c
    try clear all_c
    obtain ⟨f_r0, f_r1, f_r2⟩ := all_f
    try clear all_f
    obtain ⟨z_x, z_s, z_t, z_r, z_y⟩ := all_z
    try clear all_z
    have h3 : Below w1.heap.size w1 w3 := below_via hb3 h2 (by omega)
    have hB3 : Below w.heap.size w w3 := below_via h3 hB1 (by omega)
    clear hb2 hb3 hx h2 hB2
    go_wp2
    have o1 := owns_below O1.out h3
    have o2 := owns_below O2.out h3
    simp only [World.size_alloc] at o1 o2
    have hsw := three_set (w2 := w3) (b := w.heap.size + 1 + 1 + 1) (x := .int .i64 bL) (y := .slice va1 bm.length vc1) (z := .slice ua1 bc.length uc1) c_r0 c_r1 c_r2
    have hkE : ∀ q, q ≠ w.heap.size + 1 + 1 + 1 → ((((w3.setCell ⟨w.heap.size + 1 + 1 + 1, 0, none⟩ (.int .i64 bL)).setCell ⟨w.heap.size + 1 + 1 + 1, 1, none⟩ (.slice va1 bm.length vc1)).setCell ⟨w.heap.size + 1 + 1 + 1, 2, none⟩ (.slice ua1 bc.length uc1))).heap[q]? = w3.heap[q]? := fun q hq => by rw [heap_setCell_ne _ _ _ hq, heap_setCell_ne _ _ _ hq, heap_setCell_ne _ _ _ hq]
    refine bodyPost_ret (results_ct rfl rfl (run_loadVar_many _ Try.underlying25 rfl (by kernel_rfl) (three_at hsw.1 hsw.2.1 hsw.2.2))) rfl ⟨_, _, rfl, ?_, ?_, ?_⟩
    · exact owns_base (owns_heap o1 fun q hq => hkE q (by have := (o1).lt q hq; omega)) (by omega)
    · exact owns_base (owns_heap o2 fun q hq => hkE q (by have := (o2).lt q hq; omega)) (by omega)
    · exact ((hB3.setCell (by dsimp only; omega) _).setCell (by dsimp only; omega) _).setCell (by dsimp only; omega) _

set_option maxRecDepth 100000 in
set_option maxHeartbeats 2000000 in
theorem Fit_wnd (l seg seg' laid laid' : Int) (ma ica wa ka va ca wa' ka' va' ca' : Option Addr) (mc icc n1 n2 wc kc vc cc wc' kc' vc' cc' lw lk lv lc lw' lk' lv' lc' : Nat) (bL : Int) (bm bc : List Int) (p q : Int) (w : World)
    (BI : Hid (∀ W, Below w.heap.size w W → Calls Try.prog 23 #[.agg #[.int .i64 seg', .slice wa' lw' wc', .slice ka' lk' kc', .slice va' lv' vc', .slice ca' lc' cc', .int .u64 laid']] W (FreshIx2 W bL bm bc (.int .i64 0))))
    (TU : Hid (∀ W, Below w.heap.size w W → Calls Try.prog 13 #[.agg #[.int .i64 seg, .slice wa lw wc, .slice ka lk kc, .slice va lv vc, .slice ca lc cc, .int .u64 laid], .agg #[.int .i64 seg', .slice wa' lw' wc', .slice ka' lk' kc', .slice va' lv' vc', .slice ca' lc' cc', .int .u64 laid']] W (AnsB W (.tuple #[.int .i64 p, .int .i64 q, .int .i64 0]))))
    (OF : Hid (∀ W, Below w.heap.size w W → Calls Try.prog 32 #[ixV l ma n1 mc ica n2 icc, .agg #[.int .i64 seg, .slice wa lw wc, .slice ka lk kc, .slice va lv vc, .slice ca lc cc, .int .u64 laid]] W (AnsB W (.tuple #[.bool true, .int .i64 0]))))
    (WN : Hid (∀ W, Below w.heap.size w W → Calls Try.prog 15 #[ixV l ma n1 mc ica n2 icc, .agg #[.int .i64 seg', .slice wa' lw' wc', .slice ka' lk' kc', .slice va' lv' vc', .slice ca' lc' cc', .int .u64 laid'], .int .i64 p, .int .i64 q] W (FreshIx2 W bL bm bc (.int .i64 0)))) :
    Calls Try.prog 20 #[ixV l ma n1 mc ica n2 icc, .agg #[.int .i64 seg, .slice wa lw wc, .slice ka lk kc, .slice va lv vc, .slice ca lc cc, .int .u64 laid], .agg #[.int .i64 seg', .slice wa' lw' wc', .slice ka' lk' kc', .slice va' lv' vc', .slice ca' lc' cc', .int .u64 laid']] w (FreshIx2 w bL bm bc (.int .i64 0)) := by
  go_enter Try.func20, Try.ntmps20
  go_wp2_with fail
  refine (BI.out _ (by (repeat (first | (with_reducible exact Below.refl _ _) | (with_reducible assumption) | (with_reducible exact Hid.out (by with_reducible assumption)) | (with_reducible refine Below.alloc ?_ ?_ _) | (with_reducible refine Below.setCell ?_ ?_ _) | (with_reducible refine below_drewN ?_ _) | (with_reducible refine Below.drew ?_) | (with_reducible refine below_via (by with_reducible assumption) ?_ ?_) | (first | (with_reducible assumption) | omega | (simp only [World.size_alloc, World.size_setCell, World.size_drew, World.heap_drewN] <;> omega) | (simp <;> omega)))))).mono ?_
  rintro e w1 ⟨v, u, rfl, o1, o2, hb1⟩
  have hz_w1 := hb1.size
  try simp only [World.size_alloc, World.size_setCell] at hz_w1
  have all_c : w1.cell? ⟨w.heap.size, 0, none⟩ = some (.int .i64 l) ∧ w1.cell? ⟨w.heap.size, 1, none⟩ = some (.slice ma n1 mc) ∧ w1.cell? ⟨w.heap.size, 2, none⟩ = some (.slice ica n2 icc) ∧ w1.cell? ⟨w.heap.size + 1, 0, none⟩ = some (.int .i64 seg) ∧ w1.cell? ⟨w.heap.size + 1, 1, none⟩ = some (.slice wa lw wc) ∧ w1.cell? ⟨w.heap.size + 1, 2, none⟩ = some (.slice ka lk kc) ∧ w1.cell? ⟨w.heap.size + 1, 3, none⟩ = some (.slice va lv vc) ∧ w1.cell? ⟨w.heap.size + 1, 4, none⟩ = some (.slice ca lc cc) ∧ w1.cell? ⟨w.heap.size + 1, 5, none⟩ = some (.int .u64 laid) ∧ w1.cell? ⟨w.heap.size + 1 + 1, 0, none⟩ = some (.int .i64 seg') ∧ w1.cell? ⟨w.heap.size + 1 + 1, 1, none⟩ = some (.slice wa' lw' wc') ∧ w1.cell? ⟨w.heap.size + 1 + 1, 2, none⟩ = some (.slice ka' lk' kc') ∧ w1.cell? ⟨w.heap.size + 1 + 1, 3, none⟩ = some (.slice va' lv' vc') ∧ w1.cell? ⟨w.heap.size + 1 + 1, 4, none⟩ = some (.slice ca' lc' cc') ∧ w1.cell? ⟨w.heap.size + 1 + 1, 5, none⟩ = some (.int .u64 laid') ∧ w1.cell? ⟨w.heap.size + 1 + 1 + 1, 0, none⟩ = some (.int .i64 0) ∧ w1.cell? ⟨w.heap.size + 1 + 1 + 1, 1, none⟩ = some (.slice none 0 0) ∧ w1.cell? ⟨w.heap.size + 1 + 1 + 1, 2, none⟩ = some (.slice none 0 0) := by refine ⟨?_, ?_, ?_, ?_, ?_, ?_, ?_, ?_, ?_, ?_, ?_, ?_, ?_, ?_, ?_, ?_, ?_, ?_⟩ <;> (refine (hb1.cell ?_).trans ?_ <;> first | (first | (with_reducible assumption) | omega | (simp only [World.size_alloc, World.size_setCell, World.size_drew, World.heap_drewN] <;> omega) | (simp <;> omega)) | (first | (with_reducible assumption) | ((try simp (disch := first | omega | (simp only [World.size_alloc, World.size_setCell, World.size_drew, World.heap_drewN] <;> omega) | fail) only [World.cell?_alloc_past, World.cell?_alloc_at, World.frozen?_alloc_past, World.frozen?_alloc_at, World.frozen?_setCell, World.cell?_drew, World.frozen?_drew]) <;> first | (with_reducible assumption) | rfl)))
  have all_f : w1.frozen? ⟨w.heap.size + 1 + 1 + 1, 0, none⟩ = false ∧ w1.frozen? ⟨w.heap.size + 1 + 1 + 1, 1, none⟩ = false ∧ w1.frozen? ⟨w.heap.size + 1 + 1 + 1, 2, none⟩ = false := by refine ⟨?_, ?_, ?_⟩ <;> (refine (hb1.frozen ?_).trans ?_ <;> first | (first | (with_reducible assumption) | omega | (simp only [World.size_alloc, World.size_setCell, World.size_drew, World.heap_drewN] <;> omega) | (simp <;> omega)) | (first | (with_reducible assumption) | ((try simp (disch := first | omega | (simp only [World.size_alloc, World.size_setCell, World.size_drew, World.heap_drewN] <;> omega) | fail) only [World.cell?_alloc_past, World.cell?_alloc_at, World.frozen?_alloc_past, World.frozen?_alloc_at, World.frozen?_setCell, World.cell?_drew, World.frozen?_drew]) <;> first | (with_reducible assumption) | rfl)))
  have all_z : w.heap.size < w1.heap.size ∧ w.heap.size + 1 < w1.heap.size ∧ w.heap.size + 1 + 1 < w1.heap.size ∧ w.heap.size + 1 + 1 + 1 < w1.heap.size := by refine ⟨?_, ?_, ?_, ?_⟩ <;> (omega)
  obtain ⟨c_x0, c_x1, c_x2, c_s0, c_s1, c_s2, c_s3, c_s4, c_s5, c_t0, c_t1, c_t2, c_t3, c_t4, c_t5, c_r0, c_r1, c_r2⟩ := all_c
  try clear all_c
  obtain ⟨f_r0, f_r1, f_r2⟩ := all_f
  try clear all_f
  obtain ⟨z_x, z_s, z_t, z_r⟩ := all_z
  try clear all_z
  have hB1 : Below w.heap.size w w1 := by (repeat (first | (with_reducible exact Below.refl _ _) | (with_reducible assumption) | (with_reducible exact Hid.out (by with_reducible assumption)) | (with_reducible refine Below.alloc ?_ ?_ _) | (with_reducible refine Below.setCell ?_ ?_ _) | (with_reducible refine below_drewN ?_ _) | (with_reducible refine Below.drew ?_) | (with_reducible refine below_via (by with_reducible assumption) ?_ ?_) | (first | (with_reducible assumption) | omega | (simp only [World.size_alloc, World.size_setCell, World.size_drew, World.heap_drewN] <;> omega) | (simp <;> omega))))
  have hz1 := hb1.size
  simp only [World.size_alloc] at hz1
  obtain ⟨va1, vc1, rfl, -⟩ := owns_news o1
  obtain ⟨ua1, uc1, rfl, -⟩ := owns_news o2
  have O1 := Lib.hid o1
  have O2 := Lib.hid o2
  clear o1 o2 hb1
  have hx : Below w1.heap.size w1 (w1.alloc (.cells #[.int .i64 bL, .slice va1 bm.length vc1, .slice ua1 bc.length uc1] 25)) := (Below.refl _ _).alloc (Nat.le_refl _) _
  go_wp2_with fail
  refine (TU.out _ (by (repeat (first | (with_reducible exact Below.refl _ _) | (with_reducible assumption) | (with_reducible exact Hid.out (by with_reducible assumption)) | (with_reducible refine Below.alloc ?_ ?_ _) | (with_reducible refine Below.setCell ?_ ?_ _) | (with_reducible refine below_drewN ?_ _) | (with_reducible refine Below.drew ?_) | (with_reducible refine below_via (by with_reducible assumption) ?_ ?_) | (first | (with_reducible assumption) | omega | (simp only [World.size_alloc, World.size_setCell, World.size_drew, World.heap_drewN] <;> omega) | (simp <;> omega)))))).mono ?_
  rintro e w2 ⟨rfl, hb2⟩
  have hz_w2 := hb2.size
  try simp only [World.size_alloc, World.size_setCell] at hz_w2
  have all_c : w2.cell? ⟨w.heap.size, 0, none⟩ = some (.int .i64 l) ∧ w2.cell? ⟨w.heap.size, 1, none⟩ = some (.slice ma n1 mc) ∧ w2.cell? ⟨w.heap.size, 2, none⟩ = some (.slice ica n2 icc) ∧ w2.cell? ⟨w.heap.size + 1, 0, none⟩ = some (.int .i64 seg) ∧ w2.cell? ⟨w.heap.size + 1, 1, none⟩ = some (.slice wa lw wc) ∧ w2.cell? ⟨w.heap.size + 1, 2, none⟩ = some (.slice ka lk kc) ∧ w2.cell? ⟨w.heap.size + 1, 3, none⟩ = some (.slice va lv vc) ∧ w2.cell? ⟨w.heap.size + 1, 4, none⟩ = some (.slice ca lc cc) ∧ w2.cell? ⟨w.heap.size + 1, 5, none⟩ = some (.int .u64 laid) ∧ w2.cell? ⟨w.heap.size + 1 + 1, 0, none⟩ = some (.int .i64 seg') ∧ w2.cell? ⟨w.heap.size + 1 + 1, 1, none⟩ = some (.slice wa' lw' wc') ∧ w2.cell? ⟨w.heap.size + 1 + 1, 2, none⟩ = some (.slice ka' lk' kc') ∧ w2.cell? ⟨w.heap.size + 1 + 1, 3, none⟩ = some (.slice va' lv' vc') ∧ w2.cell? ⟨w.heap.size + 1 + 1, 4, none⟩ = some (.slice ca' lc' cc') ∧ w2.cell? ⟨w.heap.size + 1 + 1, 5, none⟩ = some (.int .u64 laid') ∧ w2.cell? ⟨w.heap.size + 1 + 1 + 1, 0, none⟩ = some (.int .i64 0) ∧ w2.cell? ⟨w.heap.size + 1 + 1 + 1, 1, none⟩ = some (.slice none 0 0) ∧ w2.cell? ⟨w.heap.size + 1 + 1 + 1, 2, none⟩ = some (.slice none 0 0) ∧ w2.cell? ⟨w1.heap.size, 0, none⟩ = some (.int .i64 bL) ∧ w2.cell? ⟨w1.heap.size, 1, none⟩ = some (.slice va1 bm.length vc1) ∧ w2.cell? ⟨w1.heap.size, 2, none⟩ = some (.slice ua1 bc.length uc1) := by refine ⟨?_, ?_, ?_, ?_, ?_, ?_, ?_, ?_, ?_, ?_, ?_, ?_, ?_, ?_, ?_, ?_, ?_, ?_, ?_, ?_, ?_⟩ <;> (refine (hb2.cell ?_).trans ?_ <;> first | (first | (with_reducible assumption) | omega | (simp only [World.size_alloc, World.size_setCell, World.size_drew, World.heap_drewN] <;> omega) | (simp <;> omega)) | (first | (with_reducible assumption) | ((try simp (disch := first | omega | (simp only [World.size_alloc, World.size_setCell, World.size_drew, World.heap_drewN] <;> omega) | fail) only [World.cell?_alloc_past, World.cell?_alloc_at, World.frozen?_alloc_past, World.frozen?_alloc_at, World.frozen?_setCell, World.cell?_drew, World.frozen?_drew]) <;> first | (with_reducible assumption) | rfl)))
  have all_f : w2.frozen? ⟨w.heap.size + 1 + 1 + 1, 0, none⟩ = false ∧ w2.frozen? ⟨w.heap.size + 1 + 1 + 1, 1, none⟩ = false ∧ w2.frozen? ⟨w.heap.size + 1 + 1 + 1, 2, none⟩ = false := by refine ⟨?_, ?_, ?_⟩ <;> (refine (hb2.frozen ?_).trans ?_ <;> first | (first | (with_reducible assumption) | omega | (simp only [World.size_alloc, World.size_setCell, World.size_drew, World.heap_drewN] <;> omega) | (simp <;> omega)) | (first | (with_reducible assumption) | ((try simp (disch := first | omega | (simp only [World.size_alloc, World.size_setCell, World.size_drew, World.heap_drewN] <;> omega) | fail) only [World.cell?_alloc_past, World.cell?_alloc_at, World.frozen?_alloc_past, World.frozen?_alloc_at, World.frozen?_setCell, World.cell?_drew, World.frozen?_drew]) <;> first | (with_reducible assumption) | rfl)))
  have all_z : w.heap.size < w2.heap.size ∧ w.heap.size + 1 < w2.heap.size ∧ w.heap.size + 1 + 1 < w2.heap.size ∧ w.heap.size + 1 + 1 + 1 < w2.heap.size ∧ w1.heap.size < w2.heap.size := by refine ⟨?_, ?_, ?_, ?_, ?_⟩ <;> (omega)
  clear c_x0 c_x1 c_x2 c_s0 c_s1 c_s2 c_s3 c_s4 c_s5 c_t0 c_t1 c_t2 c_t3 c_t4 c_t5 c_r0 c_r1 c_r2 f_r0 f_r1 f_r2 z_x z_s z_t z_r
  obtain ⟨c_x0, c_x1, c_x2, c_s0, c_s1, c_s2, c_s3, c_s4, c_s5, c_t0, c_t1, c_t2, c_t3, c_t4, c_t5, c_r0, c_r1, c_r2, c_y0, c_y1, c_y2⟩ := all_c
  try clear all_c
  obtain ⟨f_r0, f_r1, f_r2⟩ := all_f
  try clear all_f
  obtain ⟨z_x, z_s, z_t, z_r, z_y⟩ := all_z
  try clear all_z
  have h2 : Below w1.heap.size w1 w2 := below_via hb2 hx (by simp)
  have hB2 : Below w.heap.size w w2 := below_via h2 hB1 (by omega)
  go_wp2_with fail
  refine (OF.out _ hB2).mono ?_
  rintro e w3 ⟨rfl, hb3⟩
  have hz_w3 := hb3.size
  try simp only [World.size_alloc, World.size_setCell] at hz_w3
  have all_c : w3.cell? ⟨w.heap.size, 0, none⟩ = some (.int .i64 l) ∧ w3.cell? ⟨w.heap.size, 1, none⟩ = some (.slice ma n1 mc) ∧ w3.cell? ⟨w.heap.size, 2, none⟩ = some (.slice ica n2 icc) ∧ w3.cell? ⟨w.heap.size + 1, 0, none⟩ = some (.int .i64 seg) ∧ w3.cell? ⟨w.heap.size + 1, 1, none⟩ = some (.slice wa lw wc) ∧ w3.cell? ⟨w.heap.size + 1, 2, none⟩ = some (.slice ka lk kc) ∧ w3.cell? ⟨w.heap.size + 1, 3, none⟩ = some (.slice va lv vc) ∧ w3.cell? ⟨w.heap.size + 1, 4, none⟩ = some (.slice ca lc cc) ∧ w3.cell? ⟨w.heap.size + 1, 5, none⟩ = some (.int .u64 laid) ∧ w3.cell? ⟨w.heap.size + 1 + 1, 0, none⟩ = some (.int .i64 seg') ∧ w3.cell? ⟨w.heap.size + 1 + 1, 1, none⟩ = some (.slice wa' lw' wc') ∧ w3.cell? ⟨w.heap.size + 1 + 1, 2, none⟩ = some (.slice ka' lk' kc') ∧ w3.cell? ⟨w.heap.size + 1 + 1, 3, none⟩ = some (.slice va' lv' vc') ∧ w3.cell? ⟨w.heap.size + 1 + 1, 4, none⟩ = some (.slice ca' lc' cc') ∧ w3.cell? ⟨w.heap.size + 1 + 1, 5, none⟩ = some (.int .u64 laid') ∧ w3.cell? ⟨w.heap.size + 1 + 1 + 1, 0, none⟩ = some (.int .i64 0) ∧ w3.cell? ⟨w.heap.size + 1 + 1 + 1, 1, none⟩ = some (.slice none 0 0) ∧ w3.cell? ⟨w.heap.size + 1 + 1 + 1, 2, none⟩ = some (.slice none 0 0) ∧ w3.cell? ⟨w1.heap.size, 0, none⟩ = some (.int .i64 bL) ∧ w3.cell? ⟨w1.heap.size, 1, none⟩ = some (.slice va1 bm.length vc1) ∧ w3.cell? ⟨w1.heap.size, 2, none⟩ = some (.slice ua1 bc.length uc1) := by refine ⟨?_, ?_, ?_, ?_, ?_, ?_, ?_, ?_, ?_, ?_, ?_, ?_, ?_, ?_, ?_, ?_, ?_, ?_, ?_, ?_, ?_⟩ <;> (refine (hb3.cell ?_).trans ?_ <;> first | (first | (with_reducible assumption) | omega | (simp only [World.size_alloc, World.size_setCell, World.size_drew, World.heap_drewN] <;> omega) | (simp <;> omega)) | (first | (with_reducible assumption) | ((try simp (disch := first | omega | (simp only [World.size_alloc, World.size_setCell, World.size_drew, World.heap_drewN] <;> omega) | fail) only [World.cell?_alloc_past, World.cell?_alloc_at, World.frozen?_alloc_past, World.frozen?_alloc_at, World.frozen?_setCell, World.cell?_drew, World.frozen?_drew]) <;> first | (with_reducible assumption) | rfl)))
  have all_f : w3.frozen? ⟨w.heap.size + 1 + 1 + 1, 0, none⟩ = false ∧ w3.frozen? ⟨w.heap.size + 1 + 1 + 1, 1, none⟩ = false ∧ w3.frozen? ⟨w.heap.size + 1 + 1 + 1, 2, none⟩ = false := by refine ⟨?_, ?_, ?_⟩ <;> (refine (hb3.frozen ?_).trans ?_ <;> first | (first | (with_reducible assumption) | omega | (simp only [World.size_alloc, World.size_setCell, World.size_drew, World.heap_drewN] <;> omega) | (simp <;> omega)) | (first | (with_reducible assumption) | ((try simp (disch := first | omega | (simp only [World.size_alloc, World.size_setCell, World.size_drew, World.heap_drewN] <;> omega) | fail) only [World.cell?_alloc_past, World.cell?_alloc_at, World.frozen?_alloc_past, World.frozen?_alloc_at, World.frozen?_setCell, World.cell?_drew, World.frozen?_drew]) <;> first | (with_reducible assumption) | rfl)))
  have all_z : w.heap.size < w3.heap.size ∧ w.heap.size + 1 < w3.heap.size ∧ w.heap.size + 1 + 1 < w3.heap.size ∧ w.heap.size + 1 + 1 + 1 < w3.heap.size ∧ w1.heap.size < w3.heap.size := by refine ⟨?_, ?_, ?_, ?_, ?_⟩ <;> (omega)
  clear c_x0 c_x1 c_x2 c_s0 c_s1 c_s2 c_s3 c_s4 c_s5 c_t0 c_t1 c_t2 c_t3 c_t4 c_t5 c_r0 c_r1 c_r2 c_y0 c_y1 c_y2 f_r0 f_r1 f_r2 z_x z_s z_t z_r z_y
  obtain ⟨c_x0, c_x1, c_x2, c_s0, c_s1, c_s2, c_s3, c_s4, c_s5, c_t0, c_t1, c_t2, c_t3, c_t4, c_t5, c_r0, c_r1, c_r2, c_y0, c_y1, c_y2⟩ := all_c
  try clear all_c
  obtain ⟨f_r0, f_r1, f_r2⟩ := all_f
  try clear all_f
  obtain ⟨z_x, z_s, z_t, z_r, z_y⟩ := all_z
  try clear all_z
  have h3 : Below w1.heap.size w1 w3 := below_via hb3 h2 (by omega)
  have hB3 : Below w.heap.size w w3 := below_via h3 hB1 (by omega)
  clear hb2 hb3 hx h2 hB2
  clear O1 O2
  go_wp2_with fail
  refine (WN.out _ hB3).mono ?_
  rintro e w4 ⟨v, u, rfl, o1, o2, hb4⟩
  have hz_w4 := hb4.size
  try simp only [World.size_alloc, World.size_setCell] at hz_w4
  have all_c : w4.cell? ⟨w.heap.size, 0, none⟩ = some (.int .i64 l) ∧ w4.cell? ⟨w.heap.size, 1, none⟩ = some (.slice ma n1 mc) ∧ w4.cell? ⟨w.heap.size, 2, none⟩ = some (.slice ica n2 icc) ∧ w4.cell? ⟨w.heap.size + 1, 0, none⟩ = some (.int .i64 seg) ∧ w4.cell? ⟨w.heap.size + 1, 1, none⟩ = some (.slice wa lw wc) ∧ w4.cell? ⟨w.heap.size + 1, 2, none⟩ = some (.slice ka lk kc) ∧ w4.cell? ⟨w.heap.size + 1, 3, none⟩ = some (.slice va lv vc) ∧ w4.cell? ⟨w.heap.size + 1, 4, none⟩ = some (.slice ca lc cc) ∧ w4.cell? ⟨w.heap.size + 1, 5, none⟩ = some (.int .u64 laid) ∧ w4.cell? ⟨w.heap.size + 1 + 1, 0, none⟩ = some (.int .i64 seg') ∧ w4.cell? ⟨w.heap.size + 1 + 1, 1, none⟩ = some (.slice wa' lw' wc') ∧ w4.cell? ⟨w.heap.size + 1 + 1, 2, none⟩ = some (.slice ka' lk' kc') ∧ w4.cell? ⟨w.heap.size + 1 + 1, 3, none⟩ = some (.slice va' lv' vc') ∧ w4.cell? ⟨w.heap.size + 1 + 1, 4, none⟩ = some (.slice ca' lc' cc') ∧ w4.cell? ⟨w.heap.size + 1 + 1, 5, none⟩ = some (.int .u64 laid') ∧ w4.cell? ⟨w.heap.size + 1 + 1 + 1, 0, none⟩ = some (.int .i64 0) ∧ w4.cell? ⟨w.heap.size + 1 + 1 + 1, 1, none⟩ = some (.slice none 0 0) ∧ w4.cell? ⟨w.heap.size + 1 + 1 + 1, 2, none⟩ = some (.slice none 0 0) ∧ w4.cell? ⟨w1.heap.size, 0, none⟩ = some (.int .i64 bL) ∧ w4.cell? ⟨w1.heap.size, 1, none⟩ = some (.slice va1 bm.length vc1) ∧ w4.cell? ⟨w1.heap.size, 2, none⟩ = some (.slice ua1 bc.length uc1) := by refine ⟨?_, ?_, ?_, ?_, ?_, ?_, ?_, ?_, ?_, ?_, ?_, ?_, ?_, ?_, ?_, ?_, ?_, ?_, ?_, ?_, ?_⟩ <;> (refine (hb4.cell ?_).trans ?_ <;> first | (first | (with_reducible assumption) | omega | (simp only [World.size_alloc, World.size_setCell, World.size_drew, World.heap_drewN] <;> omega) | (simp <;> omega)) | (first | (with_reducible assumption) | ((try simp (disch := first | omega | (simp only [World.size_alloc, World.size_setCell, World.size_drew, World.heap_drewN] <;> omega) | fail) only [World.cell?_alloc_past, World.cell?_alloc_at, World.frozen?_alloc_past, World.frozen?_alloc_at, World.frozen?_setCell, World.cell?_drew, World.frozen?_drew]) <;> first | (with_reducible assumption) | rfl)))
  have all_f : w4.frozen? ⟨w.heap.size + 1 + 1 + 1, 0, none⟩ = false ∧ w4.frozen? ⟨w.heap.size + 1 + 1 + 1, 1, none⟩ = false ∧ w4.frozen? ⟨w.heap.size + 1 + 1 + 1, 2, none⟩ = false := by refine ⟨?_, ?_, ?_⟩ <;> (refine (hb4.frozen ?_).trans ?_ <;> first | (first | (with_reducible assumption) | omega | (simp only [World.size_alloc, World.size_setCell, World.size_drew, World.heap_drewN] <;> omega) | (simp <;> omega)) | (first | (with_reducible assumption) | ((try simp (disch := first | omega | (simp only [World.size_alloc, World.size_setCell, World.size_drew, World.heap_drewN] <;> omega) | fail) only [World.cell?_alloc_past, World.cell?_alloc_at, World.frozen?_alloc_past, World.frozen?_alloc_at, World.frozen?_setCell, World.cell?_drew, World.frozen?_drew]) <;> first | (with_reducible assumption) | rfl)))
  have all_z : w.heap.size < w4.heap.size ∧ w.heap.size + 1 < w4.heap.size ∧ w.heap.size + 1 + 1 < w4.heap.size ∧ w.heap.size + 1 + 1 + 1 < w4.heap.size ∧ w1.heap.size < w4.heap.size := by refine ⟨?_, ?_, ?_, ?_, ?_⟩ <;> (omega)
  clear c_x0 c_x1 c_x2 c_s0 c_s1 c_s2 c_s3 c_s4 c_s5 c_t0 c_t1 c_t2 c_t3 c_t4 c_t5 c_r0 c_r1 c_r2 c_y0 c_y1 c_y2 f_r0 f_r1 f_r2 z_x z_s z_t z_r z_y
  obtain ⟨c_x0, c_x1, c_x2, c_s0, c_s1, c_s2, c_s3, c_s4, c_s5, c_t0, c_t1, c_t2, c_t3, c_t4, c_t5, c_r0, c_r1, c_r2, c_y0, c_y1, c_y2⟩ := all_c
  try clear all_c
  obtain ⟨f_r0, f_r1, f_r2⟩ := all_f
  try clear all_f
  obtain ⟨z_x, z_s, z_t, z_r, z_y⟩ := all_z
  try clear all_z
  have hz4 := hb4.size
  have hz3 := h3.size
  have hB4 : Below w.heap.size w w4 := below_via hb4 hB3 (by omega)
  obtain ⟨va2, vc2, rfl, -⟩ := owns_news o1
  obtain ⟨ua2, uc2, rfl, -⟩ := owns_news o2
  have O1 := Lib.hid o1
  have O2 := Lib.hid o2
  clear o1 o2 hb4
  go_wp2
  have hsw := three_set (w2 := w4) (b := w.heap.size + 1 + 1 + 1) (x := .int .i64 bL) (y := .slice va2 bm.length vc2) (z := .slice ua2 bc.length uc2) c_r0 c_r1 c_r2
  have hkE : ∀ q, q ≠ w.heap.size + 1 + 1 + 1 → ((((w4.setCell ⟨w.heap.size + 1 + 1 + 1, 0, none⟩ (.int .i64 bL)).setCell ⟨w.heap.size + 1 + 1 + 1, 1, none⟩ (.slice va2 bm.length vc2)).setCell ⟨w.heap.size + 1 + 1 + 1, 2, none⟩ (.slice ua2 bc.length uc2))).heap[q]? = w4.heap[q]? := fun q hq => by rw [heap_setCell_ne _ _ _ hq, heap_setCell_ne _ _ _ hq, heap_setCell_ne _ _ _ hq]
  refine bodyPost_ret (results_ct rfl rfl (run_loadVar_many _ Try.underlying25 rfl (by kernel_rfl) (three_at hsw.1 hsw.2.1 hsw.2.2))) rfl ⟨_, _, rfl, ?_, ?_, ?_⟩
  · exact owns_base (owns_heap O1.out fun q hq => hkE q (by have := (O1.out).lt q hq; omega)) (by omega)
  · exact owns_base (owns_heap O2.out fun q hq => hkE q (by have := (O2.out).lt q hq; omega)) (by omega)
  · exact ((hB4.setCell (by dsimp only; omega) _).setCell (by dsimp only; omega) _).setCell (by dsimp only; omega) _

theorem bld_same {c : SlC} (h : bldE c ≠ 0) : bldL c = 0 ∧ bldM c = [] ∧ bldC c = [] := ⟨if_neg h, if_neg h, if_neg h⟩
/-- Fit answers what Build does, whatever index and array it is made of -/
theorem Fit_ok (l : Int) (ma ica : Option Addr) (mc icc : Nat) (ms cs : List Int) (c d : SlC) (a b : SlA) (hl : c.ws.length ≤ 1000000000000) (hl2 : c.ks.length ≤ 1000000000000) (hl' : d.ws.length ≤ 1000000000000) (hl2' : d.ks.length ≤ 1000000000000) (hlm : ms.length ≤ 100000) (hlc : cs.length ≤ 100000) (w : World) (hm : IsRow .i64 w ma ms) (hi : IsRow .i64 w ica cs) (hc : SlIn w c a) (hd : SlIn w d b)
    (q1 : c.ks.length ≤ a.kc) (q2 : c.vs.length ≤ a.vc) (q3 : d.ks.length ≤ b.kc) (q4 : d.vs.length ≤ b.vc) :
    Calls Try.prog 20 #[ixV l ma ms.length mc ica cs.length icc, slV c a, slV d b] w (FreshIx2 w (bldL d) (bldM d) (bldC d) (.int .i64 (bldE d))) := by
  have BI := Lib.hid (fun W (hb : Below w.heap.size w W) => BuildIx_ok d b hl' hl2' W (hd.below hb))
  by_cases h0 : bldE d = 0
  · have TU := Lib.hid (fun W (hb : Below w.heap.size w W) => Turned_ok c d a b hl hl2 hl' hl2' W (hc.below hb) (hd.below hb) q1 q2 q3 q4)
    have OF := Lib.hid (fun W (hb : Below w.heap.size w W) => OfIx_ok l ma ica mc icc ms cs c a hl hl2 W (hc.below hb) (hm.below hb) (hi.below hb) hlm hlc)
    rw [h0] at BI ⊢
    by_cases h1 : tuE c d = 0 ∧ bldE c = 0 ∧ ofB l ms cs c = true
    · obtain ⟨e1, e2, e3⟩ := h1
      have e4 : tuV c d = (((tuF c d c.seg.toNat c.cs.length : Nat) : Int), ((tuT c d c.seg.toNat c.cs.length : Nat) : Int), 0) := if_pos e1
      have hof := e3
      simp only [ofB, ixEq, e2, Bool.and_eq_true, decide_eq_true_eq] at hof
      have hx : l = bldL c ∧ ms = bldM c ∧ cs = bldC c := by
        refine ⟨?_, ?_, ?_⟩ <;> simp_all
      obtain ⟨x1, x2, x3⟩ := hx
      have hsd : c.seg = d.seg ∧ c.ks.length = d.ks.length := by
        unfold tuE at e1
        split at e1
        · split at e1
          · split at e1
            · assumption
            · cases e1
          · cases e1
        · cases e1
      obtain ⟨S, D, hS, hS2, hS4, hS64, hcs, hD, hks, hSM, -⟩ := bld_vals e2
      obtain ⟨S', D', hS', hS2', -, -, hcs', hD', hks', -⟩ := bld_vals h0
      have hSS : S' = S := by have := hsd.1; omega
      subst hSS
      have hDD : 2 ^ D' = 2 ^ D := by
        have : S' * 2 ^ D' = S' * 2 ^ D := by have := hsd.2; omega
        exact Nat.eq_of_mul_eq_mul_left (by omega) this
      have hbd := tu_bd c d c.seg.toNat c.cs.length
      obtain ⟨w1, w2, w3, w4⟩ := wnd_law e2 h0 hsd.1 hsd.2 (lo := ((tuF c d c.seg.toNat c.cs.length : Nat) : Int)) (hi := ((tuT c d c.seg.toNat c.cs.length : Nat) : Int)) (by omega) (by omega) (by omega) (fun k k1 k2 => by
        rw [← hsd.1]
        exact tu_like (M := c.cs.length) (by omega) (by omega))
      have WN := Lib.hid (fun W (hb : Below w.heap.size w W) => Window_ok l ma ica mc icc ms cs d b ((tuF c d c.seg.toNat c.cs.length : Nat) : Int) ((tuT c d c.seg.toNat c.cs.length : Nat) : Int) hl' hl2' W (hd.below hb) (hm.below hb) (hi.below hb) hlm hlc)
      rw [x1, x2, x3] at WN
      rw [w1, w2, w3, w4] at WN
      rw [← x1, ← x2, ← x3] at WN
      rw [e4] at TU
      rw [e2, e3] at OF
      exact Fit_wnd _ _ _ _ _ _ _ _ _ _ _ _ _ _ _ _ _ _ _ _ _ _ _ _ _ _ _ _ _ _ _ _ _ _ _ _ _ _ _ _ w BI TU OF WN
    · have h9 : (tuV c d).2.2 = tuE c d := by
        unfold tuV
        split
        · rename_i h; exact h.symm
        · rfl
      refine Fit_whole _ _ _ _ _ _ _ _ _ _ _ _ _ _ _ _ _ _ _ _ _ _ _ _ _ _ _ _ _ _ _ _ _ _ _ _ _ _ _ _ _ _ _ ?_ w BI TU OF
      rw [h9]
      by_cases e1 : tuE c d = 0
      · by_cases e2 : bldE c = 0
        · exact .inr (.inr ⟨e1, e2, by
            rw [Bool.eq_false_iff]
            exact fun e3 => h1 ⟨e1, e2, e3⟩⟩)
        · exact .inr (.inl ⟨e1, e2⟩)
      · exact .inl e1
  · obtain ⟨x1, x2, x3⟩ := bld_same h0
    rw [x1, x2, x3] at BI ⊢
    exact Fit_no _ _ _ _ _ _ _ _ _ _ _ _ _ _ _ _ _ _ _ _ _ _ _ _ _ _ _ _ _ _ _ _ _ _ _ _ _ _ _ h0 w BI
end Go.Proofs.Ytbmibaafkgleeaa
